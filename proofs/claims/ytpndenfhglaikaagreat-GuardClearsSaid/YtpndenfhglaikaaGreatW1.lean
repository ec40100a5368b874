import Derived.Test.YtpndenfhglaikaaGreatW0
set_option linter.all false
namespace Sg
open Go Go.Proofs
set_option maxRecDepth 20000
noncomputable section
section
variable (u0:Machine) (u2:Bool) (o4:(List Bool)) (r_:(Machine × Bool)) (o0:(List Event)) (u1:(Bool × Machine × Bool))
abbrev am5:List (Nat × Option Ob):=[(CX u0 u2),(qP u0),(kF u0),(iD u0),(gY u0),(gU u0),(gJ u0),(gm u0),(fJ u0),(kV u0),Rh]
abbrev akZ:List CV:=[(.own 48 false u0.clearing.events.length),(cB u0.clearing.cleared),(cI u0.clearing.millis),(cI u0.clearing.energy),(.own 2 false u0.clearing.state.closed.length),(.own 3 false u0.clearing.state.locked.length),(.own 4 false u0.clearing.state.badLink.length),(.own 5 false u0.clearing.state.on_.length),(.own 6 false u0.clearing.state.badSource.length),(.own 7 false u0.clearing.state.earthed.length),(.own 8 false u0.clearing.state.badBus.length),(cI u0.p.buses),(.d (xg u0)),(.d (wJ u0)),(.d (xA u0)),(cI u0.bus),(.d (yE u0 u2)),(cI u0.total),(.mp 9),(cI u0.now)]
abbrev ah9:=(⟨o4,u0.clearing.state.locked,u0.clearing.state.badLink,u0.clearing.state.on_,u0.clearing.state.badSource,u0.clearing.state.earthed,u0.clearing.state.badBus⟩:State)
abbrev yI:Nat × Option Ob:=(9,some (Px 3 3 false false 1 1 (aC .i64) (aC .i64) r_.1.since))
abbrev aj6:List (Nat × Option Ob):=[(0,some (.cells 96 [(.own 26 false o0.length),(cB r_.1.clearing.cleared),(cI r_.1.clearing.millis),(cI r_.1.clearing.energy),(.own 27 false o4.length),(.own 3 false u0.clearing.state.locked.length),(.own 4 false u0.clearing.state.badLink.length),(.own 5 false u0.clearing.state.on_.length),(.own 6 false u0.clearing.state.badSource.length),(.own 7 false u0.clearing.state.earthed.length),(.own 8 false u0.clearing.state.badBus.length),(cI r_.1.p.buses),(.d (aD none 5 Source.cell r_.1.p.sources)),(.d (aD none 6 Link.cell r_.1.p.links)),(.d (aD none 4 aJ.cell r_.1.p.racks)),(cI r_.1.bus),(.d (aD (some r_.2) 1 (aC .i64) r_.1.amps)),(cI r_.1.total),(.mp 9),(cI r_.1.now)])),(1,none),(2,none),(iD u0),(gY u0),(gU u0),(gJ u0),(gm u0),(fJ u0),(yI r_),Rh,(Ov o0),(NZ o4)]
abbrev TM:Nat × Option Ob:=(0,some (.cells 96 [(.own 26 false o0.length),(cB true),(cI r_.1.clearing.millis),(cI r_.1.clearing.energy),(.own 27 false o4.length),(.own 3 false u0.clearing.state.locked.length),(.own 4 false u0.clearing.state.badLink.length),(.own 5 false u0.clearing.state.on_.length),(.own 6 false u0.clearing.state.badSource.length),(.own 7 false u0.clearing.state.earthed.length),(.own 8 false u0.clearing.state.badBus.length),(cI r_.1.p.buses),(.d (aD none 5 Source.cell r_.1.p.sources)),(.d (aD none 6 Link.cell r_.1.p.links)),(.d (aD none 4 aJ.cell r_.1.p.racks)),(cI r_.1.bus),(.d (aD (some r_.2) 1 (aC .i64) r_.1.amps)),(cI r_.1.total),(.mp 9),(cI r_.1.now)]))
abbrev akT:List CV:=[(.own 26 false o0.length),(cB true),(cI r_.1.clearing.millis),(cI r_.1.clearing.energy),(.own 27 false o4.length),(.own 3 false u0.clearing.state.locked.length),(.own 4 false u0.clearing.state.badLink.length),(.own 5 false u0.clearing.state.on_.length),(.own 6 false u0.clearing.state.badSource.length),(.own 7 false u0.clearing.state.earthed.length),(.own 8 false u0.clearing.state.badBus.length)]
abbrev aiE:List CV:=[(.own 26 false o0.length),(cB true),(cI r_.1.clearing.millis),(cI r_.1.clearing.energy),(.own 27 false o4.length),(.own 34 false u0.clearing.state.locked.length),(.own 4 false u0.clearing.state.badLink.length),(.own 5 false u0.clearing.state.on_.length),(.own 6 false u0.clearing.state.badSource.length),(.own 7 false u0.clearing.state.earthed.length),(.own 8 false u0.clearing.state.badBus.length)]
abbrev YO:Nat × Option Ob:=(34,some (YW u0))
abbrev ajb:List CV:=[(.own 26 false o0.length),(cB true),(cI r_.1.clearing.millis),(cI r_.1.clearing.energy),(.own 27 false o4.length),(.own 34 false u0.clearing.state.locked.length),(.own 35 false u0.clearing.state.badLink.length),(.own 5 false u0.clearing.state.on_.length),(.own 6 false u0.clearing.state.badSource.length),(.own 7 false u0.clearing.state.earthed.length),(.own 8 false u0.clearing.state.badBus.length)]
abbrev aa2:Nat × Option Ob:=(35,some (Zz u0))
abbrev akL:List CV:=[(.own 26 false o0.length),(cB true),(cI r_.1.clearing.millis),(cI r_.1.clearing.energy),(.own 27 false o4.length),(.own 34 false u0.clearing.state.locked.length),(.own 35 false u0.clearing.state.badLink.length),(.own 36 false u0.clearing.state.on_.length),(.own 6 false u0.clearing.state.badSource.length),(.own 7 false u0.clearing.state.earthed.length),(.own 8 false u0.clearing.state.badBus.length)]
abbrev ado:Nat × Option Ob:=(36,some (YD u0))
abbrev alH:List CV:=[(.own 26 false o0.length),(cB true),(cI r_.1.clearing.millis),(cI r_.1.clearing.energy),(.own 27 false o4.length),(.own 34 false u0.clearing.state.locked.length),(.own 35 false u0.clearing.state.badLink.length),(.own 36 false u0.clearing.state.on_.length),(.own 37 false u0.clearing.state.badSource.length),(.own 7 false u0.clearing.state.earthed.length),(.own 8 false u0.clearing.state.badBus.length)]
abbrev agm:Nat × Option Ob:=(37,some (Zu u0))
abbrev ai7:List CV:=[(.own 26 false o0.length),(cB true),(cI r_.1.clearing.millis),(cI r_.1.clearing.energy),(.own 27 false o4.length),(.own 34 false u0.clearing.state.locked.length),(.own 35 false u0.clearing.state.badLink.length),(.own 36 false u0.clearing.state.on_.length),(.own 37 false u0.clearing.state.badSource.length),(.own 38 false u0.clearing.state.earthed.length),(.own 8 false u0.clearing.state.badBus.length)]
abbrev adb:Nat × Option Ob:=(12,some (YW u0))
abbrev aep:Nat × Option Ob:=(13,some (Zz u0))
abbrev acU:Nat × Option Ob:=(14,some (YD u0))
abbrev adC:Nat × Option Ob:=(15,some (Zu u0))
abbrev aeJ:Nat × Option Ob:=(16,some (UK u0))
abbrev adH:Nat × Option Ob:=(17,some (Zc u0))
abbrev aln:List CV:=[(.own 10 false o0.length),(cB true),(cI r_.1.clearing.millis),(cI r_.1.clearing.energy),(.own 11 false o4.length),(.own 12 false u0.clearing.state.locked.length),(.own 13 false u0.clearing.state.badLink.length),(.own 14 false u0.clearing.state.on_.length),(.own 15 false u0.clearing.state.badSource.length),(.own 16 false u0.clearing.state.earthed.length),(.own 17 false u0.clearing.state.badBus.length)]
abbrev ala:Nat × Option Ob:=(18,some (.cells 38 (aln u0 o4 r_ o0)))
abbrev TS:Nat × Option Ob:=(0,some (.cells 96 [(.own 40 false u1.2.1.clearing.events.length),(cB u1.2.1.clearing.cleared),(cI u1.2.1.clearing.millis),(cI u1.2.1.clearing.energy),(.own 41 false u1.2.1.clearing.state.closed.length),(.own 3 false u0.clearing.state.locked.length),(.own 4 false u0.clearing.state.badLink.length),(.own 5 false u0.clearing.state.on_.length),(.own 6 false u0.clearing.state.badSource.length),(.own 7 false u0.clearing.state.earthed.length),(.own 8 false u0.clearing.state.badBus.length),(cI u1.2.1.p.buses),(.d (aD none 5 Source.cell u1.2.1.p.sources)),(.d (aD none 6 Link.cell u1.2.1.p.links)),(.d (aD none 4 aJ.cell u1.2.1.p.racks)),(cI u1.2.1.bus),(.d (aD (some u1.2.2) 1 (aC .i64) u1.2.1.amps)),(cI u1.2.1.total),(.mp 9),(cI u1.2.1.now)]))
abbrev Um:Nat × Option Ob:=(40,some (aF 87 2 Event.cell u1.2.1.clearing.events))
abbrev RV:Nat × Option Ob:=(41,some (aF 4 1 af u1.2.1.clearing.state.closed))
abbrev aj9:List CV:=[(.own 40 false u1.2.1.clearing.events.length),(cB u1.2.1.clearing.cleared),(cI u1.2.1.clearing.millis),(cI u1.2.1.clearing.energy),(.own 41 false u1.2.1.clearing.state.closed.length),(.own 3 false u0.clearing.state.locked.length),(.own 4 false u0.clearing.state.badLink.length),(.own 5 false u0.clearing.state.on_.length),(.own 6 false u0.clearing.state.badSource.length),(.own 7 false u0.clearing.state.earthed.length),(.own 8 false u0.clearing.state.badBus.length)]
abbrev amL:List CV:=[(.own 40 false u1.2.1.clearing.events.length),(cB u1.2.1.clearing.cleared),(cI u1.2.1.clearing.millis),(cI u1.2.1.clearing.energy),(.own 41 false u1.2.1.clearing.state.closed.length),(.own 42 false u0.clearing.state.locked.length),(.own 4 false u0.clearing.state.badLink.length),(.own 5 false u0.clearing.state.on_.length),(.own 6 false u0.clearing.state.badSource.length),(.own 7 false u0.clearing.state.earthed.length),(.own 8 false u0.clearing.state.badBus.length)]
abbrev YU:Nat × Option Ob:=(42,some (YW u0))
abbrev amK:List CV:=[(.own 40 false u1.2.1.clearing.events.length),(cB u1.2.1.clearing.cleared),(cI u1.2.1.clearing.millis),(cI u1.2.1.clearing.energy),(.own 41 false u1.2.1.clearing.state.closed.length),(.own 42 false u0.clearing.state.locked.length),(.own 43 false u0.clearing.state.badLink.length),(.own 5 false u0.clearing.state.on_.length),(.own 6 false u0.clearing.state.badSource.length),(.own 7 false u0.clearing.state.earthed.length),(.own 8 false u0.clearing.state.badBus.length)]
abbrev aco:Nat × Option Ob:=(43,some (Zz u0))
abbrev ak0:List CV:=[(.own 40 false u1.2.1.clearing.events.length),(cB u1.2.1.clearing.cleared),(cI u1.2.1.clearing.millis),(cI u1.2.1.clearing.energy),(.own 41 false u1.2.1.clearing.state.closed.length),(.own 42 false u0.clearing.state.locked.length),(.own 43 false u0.clearing.state.badLink.length),(.own 44 false u0.clearing.state.on_.length),(.own 6 false u0.clearing.state.badSource.length),(.own 7 false u0.clearing.state.earthed.length),(.own 8 false u0.clearing.state.badBus.length)]
abbrev ads:Nat × Option Ob:=(44,some (YD u0))
abbrev amT:List CV:=[(.own 40 false u1.2.1.clearing.events.length),(cB u1.2.1.clearing.cleared),(cI u1.2.1.clearing.millis),(cI u1.2.1.clearing.energy),(.own 41 false u1.2.1.clearing.state.closed.length),(.own 42 false u0.clearing.state.locked.length),(.own 43 false u0.clearing.state.badLink.length),(.own 44 false u0.clearing.state.on_.length),(.own 45 false u0.clearing.state.badSource.length),(.own 7 false u0.clearing.state.earthed.length),(.own 8 false u0.clearing.state.badBus.length)]
abbrev agq:Nat × Option Ob:=(45,some (Zu u0))
abbrev amu:List CV:=[(.own 40 false u1.2.1.clearing.events.length),(cB u1.2.1.clearing.cleared),(cI u1.2.1.clearing.millis),(cI u1.2.1.clearing.energy),(.own 41 false u1.2.1.clearing.state.closed.length),(.own 42 false u0.clearing.state.locked.length),(.own 43 false u0.clearing.state.badLink.length),(.own 44 false u0.clearing.state.on_.length),(.own 45 false u0.clearing.state.badSource.length),(.own 46 false u0.clearing.state.earthed.length),(.own 8 false u0.clearing.state.badBus.length)]
abbrev ah8:List CV:=[(.own 10 false u1.2.1.clearing.events.length),(cB u1.2.1.clearing.cleared),(cI u1.2.1.clearing.millis),(cI u1.2.1.clearing.energy),(.own 11 false u1.2.1.clearing.state.closed.length),(.own 12 false u0.clearing.state.locked.length),(.own 13 false u0.clearing.state.badLink.length),(.own 14 false u0.clearing.state.on_.length),(.own 15 false u0.clearing.state.badSource.length),(.own 16 false u0.clearing.state.earthed.length),(.own 17 false u0.clearing.state.badBus.length)]
abbrev akW:Nat × Option Ob:=(18,some (.cells 38 (ah8 u0 u1)))
end
theorem BV (u0:Machine) (u2:Bool) {r:(bg × (List (Int × Int)))} (h:jk u0 u2=some r):Fn Tryz.prog 37 [(.one (.ptr 0 0))] (SS u0 u2) (.v (.agg [(.own 10 false r.1.events.length),(cB r.1.cleared),(cI r.1.millis),(cI r.1.energy),(.own 11 false r.1.state.closed.length),(.own 12 false r.1.state.locked.length),(.own 13 false r.1.state.badLink.length),(.own 14 false r.1.state.on_.length),(.own 15 false r.1.state.badSource.length),(.own 16 false r.1.state.earthed.length),(.own 17 false r.1.state.badBus.length)])) [(0,none),(1,none),(2,none),(3,none),(4,none),(5,none),(6,none),(7,none),(8,none),(9,some (Px 3 3 false false 1 1 (aC .i64) (aC .i64) r.2)),(10,some (aF 87 2 Event.cell r.1.events)),(11,some (aF 4 1 af r.1.state.closed)),(12,some (aF 4 1 af r.1.state.locked)),(13,some (aF 4 1 af r.1.state.badLink)),(14,some (aF 4 1 af r.1.state.on_)),(15,some (aF 4 1 af r.1.state.badSource)),(16,some (aF 4 1 af r.1.state.earthed)),(17,some (aF 4 1 af r.1.state.badBus)),(18,none)]:=by
 refine fN tT Tryz.func37 rfl rfl fun B=> ?_
 show bG _ _ _ _ _ _ (nC r) _
 unfold jk at h
 refine sz tT ⟨[(0,(vP 0 0)),(2,(vP 23 0))],(am5 u0 u2)⟩ {fr:=[(0,23)] } [] ?_
 refine bE h fun y hy h=> ?_
 refine Wn 0 rfl [] (qU u0) (fun _:Unit=>(⟨[],[]⟩:St)) nC hy ?_ (fun s f h=> ?_) ?_
 ·clear hy
  refine ri tT ⟨VO,(am5 u0 u2)⟩ [] {} [] trivial (.trans (bJ.rD (E0:=96) (cs:=(ahp u0 u2)) (nn:=false) (len:=u0.clearing.events.length) (E:=87) (esz:=2) (n:=u0.clearing.events.length) (el:=au Event.cell u0.clearing.events) (p:=0) (q:=0) (b:=1) (b':=48) (by kernel_rfl) (by kernel_rfl) (by kernel_rfl) (by kernel_rfl)) (.trans (fz ⟨VO,[(0,some (.cells 96 (akZ u0 u2))),(1,none),(kF u0),(iD u0),(gY u0),(gU u0),(gJ u0),(gm u0),(fJ u0),(kV u0),Rh,(48,some (Mh u0))]⟩ []) (.trans (bJ.rD (E0:=96) (cs:=(akZ u0 u2)) (nn:=false) (len:=u0.clearing.state.closed.length) (E:=4) (esz:=1) (n:=u0.clearing.state.closed.length) (el:=au af u0.clearing.state.closed) (p:=0) (q:=4) (b:=2) (b':=49) (by kernel_rfl) (by kernel_rfl) (by kernel_rfl) (by kernel_rfl)) (.trans (fz ⟨VO,[(0,some (.cells 96 [(.own 48 false u0.clearing.events.length),(cB u0.clearing.cleared),(cI u0.clearing.millis),(cI u0.clearing.energy),(.own 49 false u0.clearing.state.closed.length),(.own 3 false u0.clearing.state.locked.length),(.own 4 false u0.clearing.state.badLink.length),(.own 5 false u0.clearing.state.on_.length),(.own 6 false u0.clearing.state.badSource.length),(.own 7 false u0.clearing.state.earthed.length),(.own 8 false u0.clearing.state.badBus.length),(cI u0.p.buses),(.d (xg u0)),(.d (wJ u0)),(.d (xA u0)),(cI u0.bus),(.d (yE u0 u2)),(cI u0.total),(.mp 9),(cI u0.now)])),(1,none),(2,none),(iD u0),(gY u0),(gU u0),(gJ u0),(gm u0),(fJ u0),(kV u0),Rh,(48,some (Mh u0)),(49,some (Vd u0))]⟩ []) (bJ.fin (st':=⟨VO,[(0,some (.cells 96 [(.own 26 false u0.clearing.events.length),(cB u0.clearing.cleared),(cI u0.clearing.millis),(cI u0.clearing.energy),(.own 27 false u0.clearing.state.closed.length),(.own 3 false u0.clearing.state.locked.length),(.own 4 false u0.clearing.state.badLink.length),(.own 5 false u0.clearing.state.on_.length),(.own 6 false u0.clearing.state.badSource.length),(.own 7 false u0.clearing.state.earthed.length),(.own 8 false u0.clearing.state.badBus.length),(cI u0.p.buses),(.d (xg u0)),(.d (wJ u0)),(.d (xA u0)),(cI u0.bus),(.d (yE u0 u2)),(cI u0.total),(.mp 9),(cI u0.now)])),(1,none),(2,none),(iD u0),(gY u0),(gU u0),(gJ u0),(gm u0),(fJ u0),(kV u0),Rh,(26,some (Mh u0)),(27,some (Vd u0))]⟩) (cs:=[]) ⟨[],[(0,0),(1,1),(2,2),(3,3),(4,4),(5,5),(6,6),(7,7),(8,8),(9,9),(23,23),(48,26),(49,27)]⟩ [0,2,3] (by kernel_rfl) trivial))))) ?_
  exact⟨rfl,(by kernel_rfl)⟩
 ·clear hy
  show bG _ _ _ _ _ _ ((BN u0) f) _
  unfold dO at h
  obtain⟨o0,o1,o2,o3,o4,u3,u4,u5,u6,u7,u8,u9,v0,v1,v2⟩:=s
  refine aQ (bE h fun r_ hr_ h=> ?_)
  have q0:=rk [(1,26),(2,27)] (Bg (⟨(⟨o0,o1,o2,o3,(ah9 u0 o4)⟩:bg),(⟨u3,u4,u5,u6⟩:ah),u7,u9,v0,v1,v2⟩:Machine) u8 hr_)
  refine rg tT ⟨VO,(aj6 u0 o4 r_ o0)⟩ [_] {an:=[(1,cA q0 [0,26,27,3,4,5,6,7,8,9])] } [] ⟨q0,trivial⟩ ?_
  refine aQ (sz tT ⟨[(0,(vP 0 0)),(2,(vP 23 0)),agu,(12,(vB (decide (r_.1.total=0))))],(aj6 u0 o4 r_ o0)⟩ {} [] ?_)
  refine bI h (fun hb1 h=> ?_) (fun hb1 h=> ?_)
  ·refine ct hb1 ?_
   refine sz tT ⟨[(0,(vP 0 0)),(2,(vP 23 0))],[(TM u0 o4 r_ o0),(1,none),(2,none),(iD u0),(gY u0),(gU u0),(gJ u0),(gm u0),(fJ u0),(yI r_),Rh,(Ov o0),(NZ o4)]⟩ {} [] ?_
   refine sz tT ⟨[(2,(vP 23 0))],[(TM u0 o4 r_ o0),(1,none),(2,none),(iD u0),(gY u0),(gU u0),(gJ u0),(gm u0),(fJ u0),(yI r_),(23,some (.cells 38 (akT u0 o4 r_ o0))),(Ov o0),(NZ o4)]⟩ {} [] ?_
   refine aI (.trans (bJ.rD (E0:=38) (cs:=(akT u0 o4 r_ o0)) (nn:=false) (len:=u0.clearing.state.locked.length) (E:=4) (esz:=1) (n:=u0.clearing.state.locked.length) (el:=au af u0.clearing.state.locked) (p:=23) (q:=5) (b:=3) (b':=34) (by kernel_rfl) (by kernel_rfl) (by kernel_rfl) (by kernel_rfl)) (.trans (fz ⟨[(2,(vP 23 0))],[(TM u0 o4 r_ o0),(1,none),(2,none),(3,none),(gY u0),(gU u0),(gJ u0),(gm u0),(fJ u0),(yI r_),(23,some (.cells 38 (aiE u0 o4 r_ o0))),(Ov o0),(NZ o4),(YO u0)]⟩ []) (.trans (bJ.rD (E0:=38) (cs:=(aiE u0 o4 r_ o0)) (nn:=false) (len:=u0.clearing.state.badLink.length) (E:=4) (esz:=1) (n:=u0.clearing.state.badLink.length) (el:=au af u0.clearing.state.badLink) (p:=23) (q:=6) (b:=4) (b':=35) (by kernel_rfl) (by kernel_rfl) (by kernel_rfl) (by kernel_rfl)) (.trans (fz ⟨[(2,(vP 23 0))],[(TM u0 o4 r_ o0),(1,none),(2,none),(3,none),(4,none),(gU u0),(gJ u0),(gm u0),(fJ u0),(yI r_),(23,some (.cells 38 (ajb u0 o4 r_ o0))),(Ov o0),(NZ o4),(YO u0),(aa2 u0)]⟩ []) (.trans (bJ.rD (E0:=38) (cs:=(ajb u0 o4 r_ o0)) (nn:=false) (len:=u0.clearing.state.on_.length) (E:=4) (esz:=1) (n:=u0.clearing.state.on_.length) (el:=au af u0.clearing.state.on_) (p:=23) (q:=7) (b:=5) (b':=36) (by kernel_rfl) (by kernel_rfl) (by kernel_rfl) (by kernel_rfl)) (.trans (fz ⟨[(2,(vP 23 0))],[(TM u0 o4 r_ o0),(1,none),(2,none),(3,none),(4,none),(5,none),(gJ u0),(gm u0),(fJ u0),(yI r_),(23,some (.cells 38 (akL u0 o4 r_ o0))),(Ov o0),(NZ o4),(YO u0),(aa2 u0),(ado u0)]⟩ []) (.trans (bJ.rD (E0:=38) (cs:=(akL u0 o4 r_ o0)) (nn:=false) (len:=u0.clearing.state.badSource.length) (E:=4) (esz:=1) (n:=u0.clearing.state.badSource.length) (el:=au af u0.clearing.state.badSource) (p:=23) (q:=8) (b:=6) (b':=37) (by kernel_rfl) (by kernel_rfl) (by kernel_rfl) (by kernel_rfl)) (.trans (fz ⟨[(2,(vP 23 0))],[(TM u0 o4 r_ o0),(1,none),(2,none),(3,none),(4,none),(5,none),(6,none),(gm u0),(fJ u0),(yI r_),(23,some (.cells 38 (alH u0 o4 r_ o0))),(Ov o0),(NZ o4),(YO u0),(aa2 u0),(ado u0),(agm u0)]⟩ []) (.trans (bJ.rD (E0:=38) (cs:=(alH u0 o4 r_ o0)) (nn:=false) (len:=u0.clearing.state.earthed.length) (E:=4) (esz:=1) (n:=u0.clearing.state.earthed.length) (el:=au af u0.clearing.state.earthed) (p:=23) (q:=9) (b:=7) (b':=38) (by kernel_rfl) (by kernel_rfl) (by kernel_rfl) (by kernel_rfl)) (.trans (fz ⟨[(2,(vP 23 0))],[(TM u0 o4 r_ o0),(1,none),(2,none),(3,none),(4,none),(5,none),(6,none),(7,none),(fJ u0),(yI r_),(23,some (.cells 38 (ai7 u0 o4 r_ o0))),(Ov o0),(NZ o4),(YO u0),(aa2 u0),(ado u0),(agm u0),(38,some (UK u0))]⟩ []) (.trans (bJ.rD (E0:=38) (cs:=(ai7 u0 o4 r_ o0)) (nn:=false) (len:=u0.clearing.state.badBus.length) (E:=4) (esz:=1) (n:=u0.clearing.state.badBus.length) (el:=au af u0.clearing.state.badBus) (p:=23) (q:=10) (b:=8) (b':=39) (by kernel_rfl) (by kernel_rfl) (by kernel_rfl) (by kernel_rfl)) (.trans (fz ⟨[(2,(vP 23 0))],[(TM u0 o4 r_ o0),(1,none),(2,none),(3,none),(4,none),(5,none),(6,none),(7,none),(8,none),(yI r_),(23,some (.cells 38 [(.own 26 false o0.length),(cB true),(cI r_.1.clearing.millis),(cI r_.1.clearing.energy),(.own 27 false o4.length),(.own 34 false u0.clearing.state.locked.length),(.own 35 false u0.clearing.state.badLink.length),(.own 36 false u0.clearing.state.on_.length),(.own 37 false u0.clearing.state.badSource.length),(.own 38 false u0.clearing.state.earthed.length),(.own 39 false u0.clearing.state.badBus.length)])),(Ov o0),(NZ o4),(YO u0),(aa2 u0),(ado u0),(agm u0),(38,some (UK u0)),(39,some (Zc u0))]⟩ []) (.trans (bJ.fin (st':=⟨[(2,(vP 18 0))],[(0,some (.cells 96 [(.own 10 false o0.length),(cB true),(cI r_.1.clearing.millis),(cI r_.1.clearing.energy),(.own 11 false o4.length),(.own 3 false u0.clearing.state.locked.length),(.own 4 false u0.clearing.state.badLink.length),(.own 5 false u0.clearing.state.on_.length),(.own 6 false u0.clearing.state.badSource.length),(.own 7 false u0.clearing.state.earthed.length),(.own 8 false u0.clearing.state.badBus.length),(cI r_.1.p.buses),(.d (aD none 5 Source.cell r_.1.p.sources)),(.d (aD none 6 Link.cell r_.1.p.links)),(.d (aD none 4 aJ.cell r_.1.p.racks)),(cI r_.1.bus),(.d (aD (some r_.2) 1 (aC .i64) r_.1.amps)),(cI r_.1.total),(.mp 9),(cI r_.1.now)])),(1,none),(2,none),(3,none),(4,none),(5,none),(6,none),(7,none),(8,none),(yI r_),(10,some (aF 87 2 Event.cell o0)),(Zw o4),(adb u0),(aep u0),(acU u0),(adC u0),(aeJ u0),(adH u0),(ala u0 o4 r_ o0)]⟩) (cs:=[]) ⟨[],[(0,0),(1,1),(2,2),(3,3),(4,4),(5,5),(6,6),(7,7),(8,8),(9,9),(26,10),(27,11),(34,12),(35,13),(36,14),(37,15),(38,16),(39,17),(23,18)]⟩ [2] (by kernel_rfl) trivial) (bJ.le (st':=⟨[(2,(vP 18 0))],[(0,none),(1,none),(2,none),(3,none),(4,none),(5,none),(6,none),(7,none),(8,none),(yI r_),(10,some (aF 87 2 Event.cell o0)),(Zw o4),(adb u0),(aep u0),(acU u0),(adC u0),(aeJ u0),(adH u0),(ala u0 o4 r_ o0)]⟩) ⟨⟨tR,trivial⟩,⟨rfl,trivial,(.refl _)⟩⟩)))))))))))))) ?_
   refine aR ?_
   obtain rfl:=oi h
   exact abS abJ bY bZ (aW.mk (.inr rfl) (p:=[]) (l:=[(.agg (aln u0 o4 r_ o0))]) (by kernel_rfl) trivial (fe.refl _) ⟨rfl,trivial,⟨rfl,trivial,⟨rfl,trivial,⟨rfl,trivial,⟨rfl,trivial,⟨rfl,trivial,⟨rfl,trivial,⟨rfl,trivial,⟨rfl,trivial,(hN 9 ⟨rfl,trivial,trivial⟩)⟩⟩⟩⟩⟩⟩⟩⟩⟩)
  ·refine cf hb1 ?_
   refine aP (aQ (aQ (bE h fun u1 hr_1 h=> ?_)))
   have q0:=rk [(1,26),(2,27),(10,40),(11,41)] (zI (⟨(⟨o0,r_.1.clearing.cleared,r_.1.clearing.millis,r_.1.clearing.energy,(ah9 u0 o4)⟩:bg),r_.1.p,r_.1.bus,r_.1.amps,r_.1.total,r_.1.since,r_.1.now⟩:Machine) r_.2 hr_1)
   refine rg tT ⟨[(0,(vP 0 0)),(2,(vP 23 0)),agu,(22,(vB u1.1))],[(TS u0 u1),(1,none),(2,none),(iD u0),(gY u0),(gU u0),(gJ u0),(gm u0),(fJ u0),(yI r_),Rh,(Um u1),(RV u1)]⟩ [_] {an:=[(1,cA q0 [0,26,27,3,4,5,6,7,8,9])] } [] ⟨q0,trivial⟩ ?_
   refine bI h (fun hb h=> ?_) (fun hb h=> ?_)
   ·refine ct hb ?_
    refine aI (bJ.fin (st':=⟨VO,[(0,some (.cells 96 [(.own 26 false u1.2.1.clearing.events.length),(cB u1.2.1.clearing.cleared),(cI u1.2.1.clearing.millis),(cI u1.2.1.clearing.energy),(.own 27 false u1.2.1.clearing.state.closed.length),(.own 3 false u0.clearing.state.locked.length),(.own 4 false u0.clearing.state.badLink.length),(.own 5 false u0.clearing.state.on_.length),(.own 6 false u0.clearing.state.badSource.length),(.own 7 false u0.clearing.state.earthed.length),(.own 8 false u0.clearing.state.badBus.length),(cI u1.2.1.p.buses),(.d (aD none 5 Source.cell u1.2.1.p.sources)),(.d (aD none 6 Link.cell u1.2.1.p.links)),(.d (aD none 4 aJ.cell u1.2.1.p.racks)),(cI u1.2.1.bus),(.d (aD (some u1.2.2) 1 (aC .i64) u1.2.1.amps)),(cI u1.2.1.total),(.mp 9),(cI u1.2.1.now)])),(1,none),(2,none),(iD u0),(gY u0),(gU u0),(gJ u0),(gm u0),(fJ u0),(yI r_),Rh,(26,some (aF 87 2 Event.cell u1.2.1.clearing.events)),(27,some (aF 4 1 af u1.2.1.clearing.state.closed))]⟩) (cs:=[]) ⟨[],[(0,0),(1,1),(2,2),(3,3),(4,4),(5,5),(6,6),(7,7),(8,8),(9,9),(23,23),(40,26),(41,27)]⟩ [0,2,3] (by kernel_rfl) trivial) ?_
    refine Z0 ?_
    obtain rfl:=oi h
    exact ad4 (by kernel_rfl)
   ·refine cf hb ?_
    refine aP (sz tT ⟨[(2,(vP 23 0))],[(TS u0 u1),(1,none),(2,none),(iD u0),(gY u0),(gU u0),(gJ u0),(gm u0),(fJ u0),(yI r_),(23,some (.cells 38 (aj9 u0 u1))),(Um u1),(RV u1)]⟩ {} [] ?_)
    refine aI (.trans (bJ.rD (E0:=38) (cs:=(aj9 u0 u1)) (nn:=false) (len:=u0.clearing.state.locked.length) (E:=4) (esz:=1) (n:=u0.clearing.state.locked.length) (el:=au af u0.clearing.state.locked) (p:=23) (q:=5) (b:=3) (b':=42) (by kernel_rfl) (by kernel_rfl) (by kernel_rfl) (by kernel_rfl)) (.trans (fz ⟨[(2,(vP 23 0))],[(TS u0 u1),(1,none),(2,none),(3,none),(gY u0),(gU u0),(gJ u0),(gm u0),(fJ u0),(yI r_),(23,some (.cells 38 (amL u0 u1))),(Um u1),(RV u1),(YU u0)]⟩ []) (.trans (bJ.rD (E0:=38) (cs:=(amL u0 u1)) (nn:=false) (len:=u0.clearing.state.badLink.length) (E:=4) (esz:=1) (n:=u0.clearing.state.badLink.length) (el:=au af u0.clearing.state.badLink) (p:=23) (q:=6) (b:=4) (b':=43) (by kernel_rfl) (by kernel_rfl) (by kernel_rfl) (by kernel_rfl)) (.trans (fz ⟨[(2,(vP 23 0))],[(TS u0 u1),(1,none),(2,none),(3,none),(4,none),(gU u0),(gJ u0),(gm u0),(fJ u0),(yI r_),(23,some (.cells 38 (amK u0 u1))),(Um u1),(RV u1),(YU u0),(aco u0)]⟩ []) (.trans (bJ.rD (E0:=38) (cs:=(amK u0 u1)) (nn:=false) (len:=u0.clearing.state.on_.length) (E:=4) (esz:=1) (n:=u0.clearing.state.on_.length) (el:=au af u0.clearing.state.on_) (p:=23) (q:=7) (b:=5) (b':=44) (by kernel_rfl) (by kernel_rfl) (by kernel_rfl) (by kernel_rfl)) (.trans (fz ⟨[(2,(vP 23 0))],[(TS u0 u1),(1,none),(2,none),(3,none),(4,none),(5,none),(gJ u0),(gm u0),(fJ u0),(yI r_),(23,some (.cells 38 (ak0 u0 u1))),(Um u1),(RV u1),(YU u0),(aco u0),(ads u0)]⟩ []) (.trans (bJ.rD (E0:=38) (cs:=(ak0 u0 u1)) (nn:=false) (len:=u0.clearing.state.badSource.length) (E:=4) (esz:=1) (n:=u0.clearing.state.badSource.length) (el:=au af u0.clearing.state.badSource) (p:=23) (q:=8) (b:=6) (b':=45) (by kernel_rfl) (by kernel_rfl) (by kernel_rfl) (by kernel_rfl)) (.trans (fz ⟨[(2,(vP 23 0))],[(TS u0 u1),(1,none),(2,none),(3,none),(4,none),(5,none),(6,none),(gm u0),(fJ u0),(yI r_),(23,some (.cells 38 (amT u0 u1))),(Um u1),(RV u1),(YU u0),(aco u0),(ads u0),(agq u0)]⟩ []) (.trans (bJ.rD (E0:=38) (cs:=(amT u0 u1)) (nn:=false) (len:=u0.clearing.state.earthed.length) (E:=4) (esz:=1) (n:=u0.clearing.state.earthed.length) (el:=au af u0.clearing.state.earthed) (p:=23) (q:=9) (b:=7) (b':=46) (by kernel_rfl) (by kernel_rfl) (by kernel_rfl) (by kernel_rfl)) (.trans (fz ⟨[(2,(vP 23 0))],[(TS u0 u1),(1,none),(2,none),(3,none),(4,none),(5,none),(6,none),(7,none),(fJ u0),(yI r_),(23,some (.cells 38 (amu u0 u1))),(Um u1),(RV u1),(YU u0),(aco u0),(ads u0),(agq u0),(46,some (UK u0))]⟩ []) (.trans (bJ.rD (E0:=38) (cs:=(amu u0 u1)) (nn:=false) (len:=u0.clearing.state.badBus.length) (E:=4) (esz:=1) (n:=u0.clearing.state.badBus.length) (el:=au af u0.clearing.state.badBus) (p:=23) (q:=10) (b:=8) (b':=47) (by kernel_rfl) (by kernel_rfl) (by kernel_rfl) (by kernel_rfl)) (.trans (fz ⟨[(2,(vP 23 0))],[(TS u0 u1),(1,none),(2,none),(3,none),(4,none),(5,none),(6,none),(7,none),(8,none),(yI r_),(23,some (.cells 38 [(.own 40 false u1.2.1.clearing.events.length),(cB u1.2.1.clearing.cleared),(cI u1.2.1.clearing.millis),(cI u1.2.1.clearing.energy),(.own 41 false u1.2.1.clearing.state.closed.length),(.own 42 false u0.clearing.state.locked.length),(.own 43 false u0.clearing.state.badLink.length),(.own 44 false u0.clearing.state.on_.length),(.own 45 false u0.clearing.state.badSource.length),(.own 46 false u0.clearing.state.earthed.length),(.own 47 false u0.clearing.state.badBus.length)])),(Um u1),(RV u1),(YU u0),(aco u0),(ads u0),(agq u0),(46,some (UK u0)),(47,some (Zc u0))]⟩ []) (.trans (bJ.fin (st':=⟨[(2,(vP 18 0))],[(0,some (.cells 96 [(.own 10 false u1.2.1.clearing.events.length),(cB u1.2.1.clearing.cleared),(cI u1.2.1.clearing.millis),(cI u1.2.1.clearing.energy),(.own 11 false u1.2.1.clearing.state.closed.length),(.own 3 false u0.clearing.state.locked.length),(.own 4 false u0.clearing.state.badLink.length),(.own 5 false u0.clearing.state.on_.length),(.own 6 false u0.clearing.state.badSource.length),(.own 7 false u0.clearing.state.earthed.length),(.own 8 false u0.clearing.state.badBus.length),(cI u1.2.1.p.buses),(.d (aD none 5 Source.cell u1.2.1.p.sources)),(.d (aD none 6 Link.cell u1.2.1.p.links)),(.d (aD none 4 aJ.cell u1.2.1.p.racks)),(cI u1.2.1.bus),(.d (aD (some u1.2.2) 1 (aC .i64) u1.2.1.amps)),(cI u1.2.1.total),(.mp 9),(cI u1.2.1.now)])),(1,none),(2,none),(3,none),(4,none),(5,none),(6,none),(7,none),(8,none),(yI r_),(10,some (aF 87 2 Event.cell u1.2.1.clearing.events)),(11,some (aF 4 1 af u1.2.1.clearing.state.closed)),(adb u0),(aep u0),(acU u0),(adC u0),(aeJ u0),(adH u0),(akW u0 u1)]⟩) (cs:=[]) ⟨[],[(0,0),(1,1),(2,2),(3,3),(4,4),(5,5),(6,6),(7,7),(8,8),(9,9),(40,10),(41,11),(42,12),(43,13),(44,14),(45,15),(46,16),(47,17),(23,18)]⟩ [2] (by kernel_rfl) trivial) (bJ.le (st':=⟨[(2,(vP 18 0))],[(0,none),(1,none),(2,none),(3,none),(4,none),(5,none),(6,none),(7,none),(8,none),(yI r_),(10,some (aF 87 2 Event.cell u1.2.1.clearing.events)),(11,some (aF 4 1 af u1.2.1.clearing.state.closed)),(adb u0),(aep u0),(acU u0),(adC u0),(aeJ u0),(adH u0),(akW u0 u1)]⟩) ⟨⟨tR,trivial⟩,⟨rfl,trivial,(.refl _)⟩⟩)))))))))))))) ?_
    refine aR ?_
    obtain rfl:=oi h
    exact abS abJ bY bZ (aW.mk (.inr rfl) (p:=[]) (l:=[(.agg (ah8 u0 u1))]) (by kernel_rfl) trivial (fe.refl _) ⟨rfl,trivial,⟨rfl,trivial,⟨rfl,trivial,⟨rfl,trivial,⟨rfl,trivial,⟨rfl,trivial,⟨rfl,trivial,⟨rfl,trivial,⟨rfl,trivial,(hN 9 ⟨rfl,trivial,trivial⟩)⟩⟩⟩⟩⟩⟩⟩⟩⟩)
 ·clear hy
  cases y with
  |brk z=>exact absurd h (by simp)
  |ret v=>
   obtain rfl:=oi h
   unfold fE
   intro e st hn ha hR
   cases e with
   |normal=>exact absurd rfl hn
   |exit id=>exact hR
   |goto l=>exact hR
   |ret=>exact hR
   |panic c=>exact hR
   |outgrown=>exact hR
def Gu  :(bg × Int)→Exit→St→Prop:=
  fun r=>aW TT [.cell 6 38, .tmp 7] (.iB [(.agg [(.own 0 false r.1.events.length),(cB r.1.cleared),(cI r.1.millis),(cI r.1.energy),(.own 1 false r.1.state.closed.length),(.own 2 false r.1.state.locked.length),(.own 3 false r.1.state.badLink.length),(.own 4 false r.1.state.on_.length),(.own 5 false r.1.state.badSource.length),(.own 6 false r.1.state.earthed.length),(.own 7 false r.1.state.badBus.length)]),(sI r.2)]) [(0,some (aF 87 2 Event.cell r.1.events)),(1,some (aF 4 1 af r.1.state.closed)),(2,some (aF 4 1 af r.1.state.locked)),(3,some (aF 4 1 af r.1.state.badLink)),(4,some (aF 4 1 af r.1.state.on_)),(5,some (aF 4 1 af r.1.state.badSource)),(6,some (aF 4 1 af r.1.state.earthed)),(7,some (aF 4 1 af r.1.state.badBus)),(8,none)]
section
variable (p:ah) (r_:Int) (u1:State) (u2:Int) (u0:(bg × (List (Int × Int))))
abbrev acg:Nat × Option Ob:=(25,some aiK)
abbrev ad1:List (Nat × Option Ob):=[(23,some (Xh p)),acg]
abbrev Rv:List (Nat × TV):=[(6,(vP 25 0)),(7,(vI r_))]
abbrev ajx:List (Nat × Option Ob):=[acg]
abbrev ajO:List CV:=[(.own 26 false 0),(cB false),(cI 0),(cI 0),(.d nS),(.d nS),(.d nS),(.d nS),(.d nS),(.d nS),(.d nS)]
abbrev UJ:Nat × Option Ob:=(26,some (.arr 87 2 0 (au Event.cell ([]:List Event))))
abbrev ams:List CV:=[(.own 26 false 0),(cB false),(cI 0),(cI 0),(.own 27 false 0),(.d nS),(.d nS),(.d nS),(.d nS),(.d nS),(.d nS)]
abbrev WM:Nat × Option Ob:=(27,some (.arr 4 1 0 (au af ([]:List Bool))))
abbrev amc:List CV:=[(.own 26 false 0),(cB false),(cI 0),(cI 0),(.own 27 false 0),(.own 28 false 0),(.d nS),(.d nS),(.d nS),(.d nS),(.d nS)]
abbrev Ym:Nat × Option Ob:=(28,some (.arr 4 1 0 (au af ([]:List Bool))))
abbrev alL:List CV:=[(.own 26 false 0),(cB false),(cI 0),(cI 0),(.own 27 false 0),(.own 28 false 0),(.own 29 false 0),(.d nS),(.d nS),(.d nS),(.d nS)]
abbrev abP:Nat × Option Ob:=(29,some (.arr 4 1 0 (au af ([]:List Bool))))
abbrev ajv:List CV:=[(.own 26 false 0),(cB false),(cI 0),(cI 0),(.own 27 false 0),(.own 28 false 0),(.own 29 false 0),(.own 30 false 0),(.d nS),(.d nS),(.d nS)]
abbrev acJ:Nat × Option Ob:=(30,some (.arr 4 1 0 (au af ([]:List Bool))))
abbrev aiS:List CV:=[(.own 26 false 0),(cB false),(cI 0),(cI 0),(.own 27 false 0),(.own 28 false 0),(.own 29 false 0),(.own 30 false 0),(.own 31 false 0),(.d nS),(.d nS)]
abbrev agM:Nat × Option Ob:=(31,some (.arr 4 1 0 (au af ([]:List Bool))))
abbrev amB:List CV:=[(.own 26 false 0),(cB false),(cI 0),(cI 0),(.own 27 false 0),(.own 28 false 0),(.own 29 false 0),(.own 30 false 0),(.own 31 false 0),(.own 32 false 0),(.d nS)]
abbrev ake:List CV:=[(.own 0 false 0),(cB false),(cI 0),(cI 0),(.own 1 false 0),(.own 2 false 0),(.own 3 false 0),(.own 4 false 0),(.own 5 false 0),(.own 6 false 0),(.own 7 false 0)]
abbrev akO:List (Nat × Option Ob):=[(0,some (.arr 87 2 0 (au Event.cell ([]:List Event)))),(1,some (.arr 4 1 0 (au af ([]:List Bool)))),(2,some (.arr 4 1 0 (au af ([]:List Bool)))),(3,some (.arr 4 1 0 (au af ([]:List Bool)))),(4,some (.arr 4 1 0 (au af ([]:List Bool)))),(5,some (.arr 4 1 0 (au af ([]:List Bool)))),(6,some (.arr 4 1 0 (au af ([]:List Bool)))),(7,some (.arr 4 1 0 (au af ([]:List Bool)))),(8,some (.cells 38 ake))]
abbrev adY:List CV:=[(.own 0 false (([]:List Event).length)),(cB false),(cI 0),(cI 0),(.own 1 false (([]:List Bool).length)),(.own 2 false (([]:List Bool).length)),(.own 3 false (([]:List Bool).length)),(.own 4 false (([]:List Bool).length)),(.own 5 false (([]:List Bool).length)),(.own 6 false (([]:List Bool).length)),(.own 7 false (([]:List Bool).length))]
abbrev akg:List (Nat × Option Ob):=[(0,some (aF 87 2 Event.cell ([]:List Event))),(1,some FY),(2,some FY),(3,some FY),(4,some FY),(5,some FY),(6,some FY),(7,some FY),(8,some (.cells 38 adY))]
abbrev ajS:List SV:=[(.agg adY),(sI r_)]
abbrev RG:List (Nat × TV):=[(6,(vP 25 0)),(7,(vI 1))]
abbrev akA:List CV:=[(.own 34 false 0),(cB false),(cI 0),(cI 0),(.d nS),(.d nS),(.d nS),(.d nS),(.d nS),(.d nS),(.d nS)]
abbrev U1:Nat × Option Ob:=(34,some (.arr 87 2 0 (au Event.cell ([]:List Event))))
abbrev alZ:List CV:=[(.own 34 false 0),(cB false),(cI 0),(cI 0),(.own 35 false 0),(.d nS),(.d nS),(.d nS),(.d nS),(.d nS),(.d nS)]
abbrev Wz:Nat × Option Ob:=(35,some (.arr 4 1 0 (au af ([]:List Bool))))
abbrev ajo:List CV:=[(.own 34 false 0),(cB false),(cI 0),(cI 0),(.own 35 false 0),(.own 36 false 0),(.d nS),(.d nS),(.d nS),(.d nS),(.d nS)]
abbrev XM:Nat × Option Ob:=(36,some (.arr 4 1 0 (au af ([]:List Bool))))
abbrev aiH:List CV:=[(.own 34 false 0),(cB false),(cI 0),(cI 0),(.own 35 false 0),(.own 36 false 0),(.own 37 false 0),(.d nS),(.d nS),(.d nS),(.d nS)]
abbrev acA:Nat × Option Ob:=(37,some (.arr 4 1 0 (au af ([]:List Bool))))
abbrev amb:List CV:=[(.own 34 false 0),(cB false),(cI 0),(cI 0),(.own 35 false 0),(.own 36 false 0),(.own 37 false 0),(.own 38 false 0),(.d nS),(.d nS),(.d nS)]
abbrev adN:Nat × Option Ob:=(38,some (.arr 4 1 0 (au af ([]:List Bool))))
abbrev ai2:List CV:=[(.own 34 false 0),(cB false),(cI 0),(cI 0),(.own 35 false 0),(.own 36 false 0),(.own 37 false 0),(.own 38 false 0),(.own 39 false 0),(.d nS),(.d nS)]
abbrev agh:Nat × Option Ob:=(39,some (.arr 4 1 0 (au af ([]:List Bool))))
abbrev amR:List CV:=[(.own 34 false 0),(cB false),(cI 0),(cI 0),(.own 35 false 0),(.own 36 false 0),(.own 37 false 0),(.own 38 false 0),(.own 39 false 0),(.own 40 false 0),(.d nS)]
abbrev amy:List SV:=[(.agg adY),(sI 1)]
abbrev aaE:Nat × Option Ob:=(42,some (aF 4 1 af u1.closed))
abbrev abe:Nat × Option Ob:=(43,some (aF 4 1 af u1.locked))
abbrev abI:Nat × Option Ob:=(44,some (aF 4 1 af u1.badLink))
abbrev aci:Nat × Option Ob:=(45,some (aF 4 1 af u1.on_))
abbrev abC:Nat × Option Ob:=(46,some (aF 4 1 af u1.badSource))
abbrev abN:Nat × Option Ob:=(47,some (aF 4 1 af u1.earthed))
abbrev aae:Nat × Option Ob:=(48,some (aF 4 1 af u1.badBus))
abbrev agE:Ob:=(Px 3 3 false false 1 1 (aC .i64) (aC .i64) ([]:(List (Int × Int))))
abbrev ZR:Nat × Option Ob:=(50,some agE)
abbrev ait:List CV:=[(.d nS),(cB false),(cI 0),(cI 0),(.own 42 false u1.closed.length),(.own 43 false u1.locked.length),(.own 44 false u1.badLink.length),(.own 45 false u1.on_.length),(.own 46 false u1.badSource.length),(.own 47 false u1.earthed.length),(.own 48 false u1.badBus.length),(cI p.buses),(.d (k4 p)),(.d (k5 p)),(.d (k6 p)),(cI u2),(.d nS),(cI 0),(.mp 50),(cI 0)]
abbrev amA:Nat × Option Ob:=(51,some (.cells 96 [(.own 52 false (([]:List Event).length)),(cB false),(cI 0),(cI 0),(.own 42 false u1.closed.length),(.own 43 false u1.locked.length),(.own 44 false u1.badLink.length),(.own 45 false u1.on_.length),(.own 46 false u1.badSource.length),(.own 47 false u1.earthed.length),(.own 48 false u1.badBus.length),(cI p.buses),(.d (k4 p)),(.d (k5 p)),(.d (k6 p)),(cI u2),(.d nS),(cI 0),(.mp 50),(cI 0)]))
abbrev ahj:Nat × Option Ob:=(52,some (aF 87 2 Event.cell ([]:List Event)))
abbrev akR:List CV:=[(.own 53 false u0.1.events.length),(cB u0.1.cleared),(cI u0.1.millis),(cI u0.1.energy),(.own 54 false u0.1.state.closed.length),(.own 55 false u0.1.state.locked.length),(.own 56 false u0.1.state.badLink.length),(.own 57 false u0.1.state.on_.length),(.own 58 false u0.1.state.badSource.length),(.own 59 false u0.1.state.earthed.length),(.own 60 false u0.1.state.badBus.length)]
abbrev akB:TV:=(.v (.agg (akR u0)))
abbrev ajL:List (Nat × Option Ob):=[(51,none),(52,none),(42,none),(43,none),(44,none),(45,none),(46,none),(47,none),(48,none),(50,some (Px 3 3 false false 1 1 (aC .i64) (aC .i64) u0.2)),(53,some (aF 87 2 Event.cell u0.1.events)),(54,some (aF 4 1 af u0.1.state.closed)),(55,some (aF 4 1 af u0.1.state.locked)),(56,some (aF 4 1 af u0.1.state.badLink)),(57,some (aF 4 1 af u0.1.state.on_)),(58,some (aF 4 1 af u0.1.state.badSource)),(59,some (aF 4 1 af u0.1.state.earthed)),(60,some (aF 4 1 af u0.1.state.badBus)),(61,none)]
abbrev aie:List CV:=[(.own 0 false u0.1.events.length),(cB u0.1.cleared),(cI u0.1.millis),(cI u0.1.energy),(.own 1 false u0.1.state.closed.length),(.own 2 false u0.1.state.locked.length),(.own 3 false u0.1.state.badLink.length),(.own 4 false u0.1.state.on_.length),(.own 5 false u0.1.state.badSource.length),(.own 6 false u0.1.state.earthed.length),(.own 7 false u0.1.state.badBus.length)]
end
theorem jv (p:ah) (s_:State) (u2:Int) {r:(bg × Int)} (h:dG p s_ u2=some r):Fn Tryz.prog 11 (Kj p s_ u2) [] (.iB [(.agg [(.own 0 false r.1.events.length),(cB r.1.cleared),(cI r.1.millis),(cI r.1.energy),(.own 1 false r.1.state.closed.length),(.own 2 false r.1.state.locked.length),(.own 3 false r.1.state.badLink.length),(.own 4 false r.1.state.on_.length),(.own 5 false r.1.state.badSource.length),(.own 6 false r.1.state.earthed.length),(.own 7 false r.1.state.badBus.length)]),(sI r.2)]) [(0,some (aF 87 2 Event.cell r.1.events)),(1,some (aF 4 1 af r.1.state.closed)),(2,some (aF 4 1 af r.1.state.locked)),(3,some (aF 4 1 af r.1.state.badLink)),(4,some (aF 4 1 af r.1.state.on_)),(5,some (aF 4 1 af r.1.state.badSource)),(6,some (aF 4 1 af r.1.state.earthed)),(7,some (aF 4 1 af r.1.state.badBus)),(8,none)]:=by
 refine fN tT Tryz.func11 rfl rfl fun B=> ?_
 show bG _ _ _ _ _ _ (Gu r) _
 unfold dG at h
 refine sz tT ⟨[(2,(vI u2)),(3,(vP 23 0)),(fH s_),(6,(vP 25 0))],(ad1 p)⟩ {fr:=[(0,23),(1,24),(2,25)] } [24] ?_
 refine aQ (aQ (bE h fun r_ hr_ h=> ?_))
 have q0:=j4 p s_ hr_
 refine rg tT ⟨[(2,(vI u2)),(3,(vP 23 0)),(fH s_),(6,(vP 25 0)),(8,(vI r_))],(ad1 p)⟩ [_] {an:=[(2,cA q0 [])] } [] ⟨q0,trivial⟩ ?_
 refine sz tT ⟨[(2,(vI u2)),(3,(vP 23 0)),(fH s_),(6,(vP 25 0)),(8,(vI r_)),(14,(vB (!decide (r_=0))))],(ad1 p)⟩ {} [] ?_
 refine bI h (fun hb1 h=> ?_) (fun hb1 h=> ?_)
 ·refine ct hb1 ?_
  refine sz tT ⟨(Rv r_),ajx⟩ {} [] ?_
  refine aI (.trans (bJ.eY (E:=0) (esz:=0) (E0:=38) (cs:=YX) (p:=25) (q:=0) (b:=26) (esz0:=0) (el0:=fun _ _=> .nilp) (ob:= .arr 87 2 0 (au Event.cell ([]:List Event))) (fun _ _ _ _ h=> .inl ⟨h,rfl⟩) (by kernel_rfl) (by kernel_rfl) (by kernel_rfl)) (.trans (fz ⟨(Rv r_),[(25,some (.cells 38 ajO)),UJ]⟩ []) (.trans (bJ.eY (E:=0) (esz:=0) (E0:=38) (cs:=ajO) (p:=25) (q:=4) (b:=27) (esz0:=0) (el0:=fun _ _=> .nilp) (ob:= .arr 4 1 0 (au af ([]:List Bool))) (fun _ _ _ _ h=> .inl ⟨h,rfl⟩) (by kernel_rfl) (by kernel_rfl) (by kernel_rfl)) (.trans (fz ⟨(Rv r_),[(25,some (.cells 38 ams)),UJ,WM]⟩ []) (.trans (bJ.eY (E:=0) (esz:=0) (E0:=38) (cs:=ams) (p:=25) (q:=5) (b:=28) (esz0:=0) (el0:=fun _ _=> .nilp) (ob:= .arr 4 1 0 (au af ([]:List Bool))) (fun _ _ _ _ h=> .inl ⟨h,rfl⟩) (by kernel_rfl) (by kernel_rfl) (by kernel_rfl)) (.trans (fz ⟨(Rv r_),[(25,some (.cells 38 amc)),UJ,WM,Ym]⟩ []) (.trans (bJ.eY (E:=0) (esz:=0) (E0:=38) (cs:=amc) (p:=25) (q:=6) (b:=29) (esz0:=0) (el0:=fun _ _=> .nilp) (ob:= .arr 4 1 0 (au af ([]:List Bool))) (fun _ _ _ _ h=> .inl ⟨h,rfl⟩) (by kernel_rfl) (by kernel_rfl) (by kernel_rfl)) (.trans (fz ⟨(Rv r_),[(25,some (.cells 38 alL)),UJ,WM,Ym,abP]⟩ []) (.trans (bJ.eY (E:=0) (esz:=0) (E0:=38) (cs:=alL) (p:=25) (q:=7) (b:=30) (esz0:=0) (el0:=fun _ _=> .nilp) (ob:= .arr 4 1 0 (au af ([]:List Bool))) (fun _ _ _ _ h=> .inl ⟨h,rfl⟩) (by kernel_rfl) (by kernel_rfl) (by kernel_rfl)) (.trans (fz ⟨(Rv r_),[(25,some (.cells 38 ajv)),UJ,WM,Ym,abP,acJ]⟩ []) (.trans (bJ.eY (E:=0) (esz:=0) (E0:=38) (cs:=ajv) (p:=25) (q:=8) (b:=31) (esz0:=0) (el0:=fun _ _=> .nilp) (ob:= .arr 4 1 0 (au af ([]:List Bool))) (fun _ _ _ _ h=> .inl ⟨h,rfl⟩) (by kernel_rfl) (by kernel_rfl) (by kernel_rfl)) (.trans (fz ⟨(Rv r_),[(25,some (.cells 38 aiS)),UJ,WM,Ym,abP,acJ,agM]⟩ []) (.trans (bJ.eY (E:=0) (esz:=0) (E0:=38) (cs:=aiS) (p:=25) (q:=9) (b:=32) (esz0:=0) (el0:=fun _ _=> .nilp) (ob:= .arr 4 1 0 (au af ([]:List Bool))) (fun _ _ _ _ h=> .inl ⟨h,rfl⟩) (by kernel_rfl) (by kernel_rfl) (by kernel_rfl)) (.trans (fz ⟨(Rv r_),[(25,some (.cells 38 amB)),UJ,WM,Ym,abP,acJ,agM,(32,some (.arr 4 1 0 (au af ([]:List Bool))))]⟩ []) (.trans (bJ.eY (E:=0) (esz:=0) (E0:=38) (cs:=amB) (p:=25) (q:=10) (b:=33) (esz0:=0) (el0:=fun _ _=> .nilp) (ob:= .arr 4 1 0 (au af ([]:List Bool))) (fun _ _ _ _ h=> .inl ⟨h,rfl⟩) (by kernel_rfl) (by kernel_rfl) (by kernel_rfl)) (.trans (fz ⟨(Rv r_),[(25,some (.cells 38 [(.own 26 false 0),(cB false),(cI 0),(cI 0),(.own 27 false 0),(.own 28 false 0),(.own 29 false 0),(.own 30 false 0),(.own 31 false 0),(.own 32 false 0),(.own 33 false 0)])),UJ,WM,Ym,abP,acJ,agM,(32,some (.arr 4 1 0 (au af ([]:List Bool)))),(33,some (.arr 4 1 0 (au af ([]:List Bool))))]⟩ []) (.trans (bJ.fin (st':=⟨[(6,(vP 8 0)),(7,(vI r_))],akO⟩) (cs:=[]) ⟨[],[(26,0),(27,1),(28,2),(29,3),(30,4),(31,5),(32,6),(33,7),(25,8)]⟩ [6,7] (by kernel_rfl) trivial) (bJ.le (st':=⟨[(6,(vP 8 0)),(7,(vI r_))],akg⟩) ⟨⟨tR,tR,trivial⟩,⟨rfl,oW,⟨rfl,oW,⟨rfl,oW,⟨rfl,oW,⟨rfl,oW,⟨rfl,oW,⟨rfl,oW,⟨rfl,oW,⟨rfl,fG ⟨cW,bH.refl _,bH.refl _,bH.refl _,cW,cW,cW,cW,cW,cW,cW,trivial⟩,trivial⟩⟩⟩⟩⟩⟩⟩⟩⟩⟩)))))))))))))))))) ?_
  refine aR ?_
  obtain rfl:=oi h
  exact rh (ajS r_) (.refl _) (hN 8 ⟨rfl,trivial,trivial⟩)
 ·refine cf hb1 ?_
  refine aP (aQ (sg tT ⟨[(2,(vI u2)),(3,(vP 23 0)),(fH s_),(6,(vP 25 0)),(24,(adQ p u2))],(ad1 p)⟩ (eqs (decide (u2<0)) 5 []) {yb:=[(2,(decide (u2<0)))] } [] (ae trivial) ?_))
  refine bI h (fun hb h=> ?_) (fun hb h=> ?_)
  ·refine ct hb ?_
   refine sz tT ⟨RG,ajx⟩ {} [] ?_
   refine aI (.trans (bJ.eY (E:=0) (esz:=0) (E0:=38) (cs:=YX) (p:=25) (q:=0) (b:=34) (esz0:=0) (el0:=fun _ _=> .nilp) (ob:= .arr 87 2 0 (au Event.cell ([]:List Event))) (fun _ _ _ _ h=> .inl ⟨h,rfl⟩) (by kernel_rfl) (by kernel_rfl) (by kernel_rfl)) (.trans (fz ⟨RG,[(25,some (.cells 38 akA)),U1]⟩ []) (.trans (bJ.eY (E:=0) (esz:=0) (E0:=38) (cs:=akA) (p:=25) (q:=4) (b:=35) (esz0:=0) (el0:=fun _ _=> .nilp) (ob:= .arr 4 1 0 (au af ([]:List Bool))) (fun _ _ _ _ h=> .inl ⟨h,rfl⟩) (by kernel_rfl) (by kernel_rfl) (by kernel_rfl)) (.trans (fz ⟨RG,[(25,some (.cells 38 alZ)),U1,Wz]⟩ []) (.trans (bJ.eY (E:=0) (esz:=0) (E0:=38) (cs:=alZ) (p:=25) (q:=5) (b:=36) (esz0:=0) (el0:=fun _ _=> .nilp) (ob:= .arr 4 1 0 (au af ([]:List Bool))) (fun _ _ _ _ h=> .inl ⟨h,rfl⟩) (by kernel_rfl) (by kernel_rfl) (by kernel_rfl)) (.trans (fz ⟨RG,[(25,some (.cells 38 ajo)),U1,Wz,XM]⟩ []) (.trans (bJ.eY (E:=0) (esz:=0) (E0:=38) (cs:=ajo) (p:=25) (q:=6) (b:=37) (esz0:=0) (el0:=fun _ _=> .nilp) (ob:= .arr 4 1 0 (au af ([]:List Bool))) (fun _ _ _ _ h=> .inl ⟨h,rfl⟩) (by kernel_rfl) (by kernel_rfl) (by kernel_rfl)) (.trans (fz ⟨RG,[(25,some (.cells 38 aiH)),U1,Wz,XM,acA]⟩ []) (.trans (bJ.eY (E:=0) (esz:=0) (E0:=38) (cs:=aiH) (p:=25) (q:=7) (b:=38) (esz0:=0) (el0:=fun _ _=> .nilp) (ob:= .arr 4 1 0 (au af ([]:List Bool))) (fun _ _ _ _ h=> .inl ⟨h,rfl⟩) (by kernel_rfl) (by kernel_rfl) (by kernel_rfl)) (.trans (fz ⟨RG,[(25,some (.cells 38 amb)),U1,Wz,XM,acA,adN]⟩ []) (.trans (bJ.eY (E:=0) (esz:=0) (E0:=38) (cs:=amb) (p:=25) (q:=8) (b:=39) (esz0:=0) (el0:=fun _ _=> .nilp) (ob:= .arr 4 1 0 (au af ([]:List Bool))) (fun _ _ _ _ h=> .inl ⟨h,rfl⟩) (by kernel_rfl) (by kernel_rfl) (by kernel_rfl)) (.trans (fz ⟨RG,[(25,some (.cells 38 ai2)),U1,Wz,XM,acA,adN,agh]⟩ []) (.trans (bJ.eY (E:=0) (esz:=0) (E0:=38) (cs:=ai2) (p:=25) (q:=9) (b:=40) (esz0:=0) (el0:=fun _ _=> .nilp) (ob:= .arr 4 1 0 (au af ([]:List Bool))) (fun _ _ _ _ h=> .inl ⟨h,rfl⟩) (by kernel_rfl) (by kernel_rfl) (by kernel_rfl)) (.trans (fz ⟨RG,[(25,some (.cells 38 amR)),U1,Wz,XM,acA,adN,agh,(40,some (.arr 4 1 0 (au af ([]:List Bool))))]⟩ []) (.trans (bJ.eY (E:=0) (esz:=0) (E0:=38) (cs:=amR) (p:=25) (q:=10) (b:=41) (esz0:=0) (el0:=fun _ _=> .nilp) (ob:= .arr 4 1 0 (au af ([]:List Bool))) (fun _ _ _ _ h=> .inl ⟨h,rfl⟩) (by kernel_rfl) (by kernel_rfl) (by kernel_rfl)) (.trans (fz ⟨RG,[(25,some (.cells 38 [(.own 34 false 0),(cB false),(cI 0),(cI 0),(.own 35 false 0),(.own 36 false 0),(.own 37 false 0),(.own 38 false 0),(.own 39 false 0),(.own 40 false 0),(.own 41 false 0)])),U1,Wz,XM,acA,adN,agh,(40,some (.arr 4 1 0 (au af ([]:List Bool)))),(41,some (.arr 4 1 0 (au af ([]:List Bool))))]⟩ []) (.trans (bJ.fin (st':=⟨[(6,(vP 8 0)),(7,(vI 1))],akO⟩) (cs:=[]) ⟨[],[(34,0),(35,1),(36,2),(37,3),(38,4),(39,5),(40,6),(41,7),(25,8)]⟩ [6,7] (by kernel_rfl) trivial) (bJ.le (st':=⟨[(6,(vP 8 0)),(7,(vI 1))],akg⟩) ⟨⟨tR,tR,trivial⟩,⟨rfl,oW,⟨rfl,oW,⟨rfl,oW,⟨rfl,oW,⟨rfl,oW,⟨rfl,oW,⟨rfl,oW,⟨rfl,oW,⟨rfl,fG ⟨cW,bH.refl _,bH.refl _,bH.refl _,cW,cW,cW,cW,cW,cW,cW,trivial⟩,trivial⟩⟩⟩⟩⟩⟩⟩⟩⟩⟩)))))))))))))))))) ?_
   refine aR ?_
   obtain rfl:=oi h
   exact rh amy (.refl _) (hN 8 ⟨rfl,trivial,trivial⟩)
  ·refine cf hb ?_
   refine aP (aQ (bE h fun u1 hr_1 h=> ?_))
   have q0:=rk [(0,42),(1,43),(2,44),(3,45),(4,46),(5,47),(6,48),(7,49)] (D8 s_ hr_1)
   refine di tT mX ⟨[(6,(vP 25 0)),(9,(vP 51 0))],[acg,(aaE u1),(abe u1),(abI u1),(aci u1),(abC u1),(abN u1),(aae u1),ZR,(51,some (.cells 96 (ait p u1 u2)))]⟩ [_] {an:=[(1,cA q0 []),(5, .map 0 (Gb (aC .i64) ([]:(List (Int × Int)))) (IB (aC .i64) ([]:(List (Int × Int)))) [])],fr:=[(5,50),(7,51)] } [] ⟨q0,trivial⟩ (.trans (bJ.eY (E:=0) (esz:=0) (E0:=96) (cs:=(ait p u1 u2)) (p:=51) (q:=0) (b:=52) (esz0:=0) (el0:=fun _ _=> .nilp) (ob:= .arr 87 2 0 (au Event.cell ([]:List Event))) (fun _ _ _ _ h=> .inl ⟨h,rfl⟩) (by kernel_rfl) (by kernel_rfl) (by kernel_rfl)) (.trans (fz ⟨[(6,(vP 25 0)),(9,(vP 51 0))],[acg,(aaE u1),(abe u1),(abI u1),(aci u1),(abC u1),(abN u1),(aae u1),ZR,(51,some (.cells 96 [(.own 52 false 0),(cB false),(cI 0),(cI 0),(.own 42 false u1.closed.length),(.own 43 false u1.locked.length),(.own 44 false u1.badLink.length),(.own 45 false u1.on_.length),(.own 46 false u1.badSource.length),(.own 47 false u1.earthed.length),(.own 48 false u1.badBus.length),(cI p.buses),(.d (k4 p)),(.d (k5 p)),(.d (k6 p)),(cI u2),(.d nS),(cI 0),(.mp 50),(cI 0)])),(52,some (.arr 87 2 0 (au Event.cell ([]:List Event))))]⟩ []) (bJ.le (st':=⟨[(6,(vP 25 0)),(9,(vP 51 0))],[acg,(aaE u1),(abe u1),(abI u1),(aci u1),(abC u1),(abN u1),(aae u1),ZR,(amA p u1 u2),ahj]⟩) ⟨⟨tR,tR,trivial⟩,(hN 9 ⟨rfl,fG ⟨cW,bH.refl _,bH.refl _,bH.refl _,bH.refl _,bH.refl _,bH.refl _,bH.refl _,bH.refl _,bH.refl _,bH.refl _,bH.refl _,bH.refl _,bH.refl _,bH.refl _,bH.refl _,bH.refl _,bH.refl _,bH.refl _,bH.refl _,trivial⟩,⟨rfl,oW,trivial⟩⟩)⟩))) ?_
   refine aQ (bE h fun u0 hr_2 h=> ?_)
   refine rg tT ⟨[(6,(vP 25 0)),(7,(vI 0))],[(25,some (.cells 38 (akR u0))),(53,some (aF 87 2 Event.cell u0.1.events)),(54,some (aF 4 1 af u0.1.state.closed)),(55,some (aF 4 1 af u0.1.state.locked)),(56,some (aF 4 1 af u0.1.state.badLink)),(57,some (aF 4 1 af u0.1.state.on_)),(58,some (aF 4 1 af u0.1.state.badSource)),(59,some (aF 4 1 af u0.1.state.earthed)),(60,some (aF 4 1 af u0.1.state.badBus))]⟩ [Fn Tryz.prog 37 [(.one (.ptr 51 0))] [(amA p u1 u2),ahj,(aaE u1),(abe u1),(abI u1),(aci u1),(abC u1),(abN u1),(aae u1),ZR] (akB u0) (ajL u0)] {an:=[(1, .call [51,52,42,43,44,45,46,47,48,50] (akB u0) (ajL u0))] } [] ⟨(Fn.leH (args:=[(.one (.ptr 51 0))]) (hin:=[(51,some (.cells 96 [(.own 52 false (([]:List Event).length)),(cB false),(cI 0),(cI 0),(.own 42 false u1.closed.length),(.own 43 false u1.locked.length),(.own 44 false u1.badLink.length),(.own 45 false u1.on_.length),(.own 46 false u1.badSource.length),(.own 47 false u1.earthed.length),(.own 48 false u1.badBus.length),(cI p.buses),(.d (k4 p)),(.d (k5 p)),(.d (k6 p)),(cI u2),(.d Vl),(cI 0),(.mp 50),(cI 0)])),ahj,(aaE u1),(abe u1),(abI u1),(aci u1),(abC u1),(abN u1),(aae u1),ZR]) (rK [(0,51),(1,52),(2,42),(3,43),(4,44),(5,45),(6,46),(7,47),(8,48),(9,50),(10,53),(11,54),(12,55),(13,56),(14,57),(15,58),(16,59),(17,60),(18,61)] (BV (⟨(⟨([]:List Event),false,0,0,u1⟩:bg),p,u2,([]:List Int),0,([]:(List (Int × Int))),0⟩:Machine) false hr_2)) ⟨jB.refl _,trivial⟩ ⟨rfl,fG ⟨bH.refl _,bH.refl _,bH.refl _,bH.refl _,bH.refl _,bH.refl _,bH.refl _,bH.refl _,bH.refl _,bH.refl _,bH.refl _,bH.refl _,bH.refl _,bH.refl _,bH.refl _,bH.refl _,bH.d dR.XA,bH.refl _,bH.refl _,bH.refl _,trivial⟩,(.refl _)⟩),trivial⟩ ?_
   refine aI (bJ.fin (st':=⟨[(6,(vP 8 0)),(7,(vI 0))],[(0,some (aF 87 2 Event.cell u0.1.events)),(1,some (aF 4 1 af u0.1.state.closed)),(2,some (aF 4 1 af u0.1.state.locked)),(3,some (aF 4 1 af u0.1.state.badLink)),(4,some (aF 4 1 af u0.1.state.on_)),(5,some (aF 4 1 af u0.1.state.badSource)),(6,some (aF 4 1 af u0.1.state.earthed)),(7,some (aF 4 1 af u0.1.state.badBus)),(8,some (.cells 38 (aie u0)))]⟩) (cs:=[]) ⟨[],[(53,0),(54,1),(55,2),(56,3),(57,4),(58,5),(59,6),(60,7),(25,8)]⟩ [6,7] (by kernel_rfl) trivial) ?_
   refine aR ?_
   obtain rfl:=oi h
   exact rh [(.agg (aie u0)),(sI 0)] (.refl _) (hN 8 ⟨rfl,trivial,trivial⟩)
def MN  :Bool→Exit→St→Prop:=
  fun r=>aW TT [.tmp 6] (vB r) []
section
variable (p:ah) (i:Int) (u0:Int)
abbrev Y8:=(decide ((Jq p i)=u0))
abbrev ajP:=(bif (Y8 p i u0)then true else(decide ((Gs p i)=u0)))
end
theorem Kh (p:ah) (i:Int) (u0:Int) {r:Bool} (h:wS p i u0=some r):Fn Tryz.prog 44 [(.agg (k3 p)),(sI i),(sI u0)] [] (vB r) []:=by
 refine fN tT Tryz.func44 rfl rfl fun B=> ?_
 show bG _ _ _ _ _ _ (MN r) _
 unfold wS at h
 refine sz tT ⟨[(1,(vI i)),(2,(vI u0)),(bB p)],[]⟩ {fr:=[(0,1)] } [1] ?_
 refine aQ (aO h fun⟨a1,a2⟩ h=> ?_)
 refine rg tT ⟨[(6,(vB (ajP p i u0)))],[]⟩ (_::(eqs (Y8 p i u0) 4 ((gP (ic [(8,(Y8 p i u0))]) [(8,false)]→All [(0:Int)≤i∧i<(p.links.length:Int)])::(eqs (Y8 p i u0) 5 [])))) {yb:=[(8,(Y8 p i u0))] } [] ⟨a1,(ae ⟨(fun hg=> ⟨(a2 (aU hg)),trivial⟩),(ae trivial)⟩)⟩ ?_
 refine aR ?_
 obtain rfl:=oi h
 exact rl [(sB (ajP p i u0))]
def CK  :Bool→Exit→St→Prop:=
  fun r=>aW TT [.tmp 4] (vB r) []
theorem BX (x:Event) (x1:Int) (u0:(List Source)) (u1:(List Link)) (u2:(List aJ)) (x2:Int) {r:Bool} (h:kZ x x1 u0 u1 u2 x2=some r):Fn Tryz.prog 43 [(.agg [(cI x.millis),(cI x.link)]),(sD (k72 u0 u1 u2 x1)),(sD (oL [(.int .i64 x2)] 0))] [] (vB r) []:=by
 refine fN tT Tryz.func43 rfl rfl fun B=> ?_
 show bG _ _ _ _ _ _ (CK r) _
 unfold kZ at h
 refine sz tT ⟨[(k76 u0 u1 u2 x1),(2,(vD (oL [(.int .i64 x2)] 0))),(3,(vD (oL [(.int .i64 x.millis),(.int .i64 x.link)] 0)))],[]⟩ {fr:=[(0,1)] } [1] ?_
 refine aQ (bE h fun r_ hr_ h=> ?_)
 have q0:=Kh (⟨x1,u0,u1,u2⟩:ah) x.link x2 hr_
 refine rg tT ⟨[(4,(vB (!r_)))],[]⟩ [_] {an:=[(4,cA q0 [])] } [] ⟨q0,trivial⟩ ?_
 refine aR ?_
 obtain rfl:=oi h
 exact rl [(sB (!r_))]
def lT  :Int→Exit→St→Prop:=
  fun r=>aW TT [.tmp 4] (vI r) []
section
variable (s_:(List Event)) (f_:Int) (u0:(List Source)) (u1:(List Link)) (u2:(List aJ)) (u3:Int)
abbrev WI:Nat × TV:=(0,(vD (aD none 2 Event.cell s_)))
abbrev aiA:=(wQ [(k72 u0 u1 u2 f_),(oL [(.int .i64 u3)] 0)])
abbrev Vk:Nat × TV:=(1,(vD (.fn 43 2 (aiA f_ u0 u1 u2 u3))))
abbrev X9:Nat × TV:=(7,(vI (s_.length:Int)))
end
def pK (s_:(List Event)) (f_:Int) (u0:(List Source)) (u1:(List Link)) (u2:(List aJ)) (u3:Int):Int→St:=
  fun t8=> ⟨[(WI s_),(Vk f_ u0 u1 u2 u3),(X9 s_),(8,(vI t8))],[]⟩
def qi  :Unit→St:=
  fun _=> ⟨[],[]⟩
def zR (s_:(List Event)) (f_:Int) (u0:(List Source)) (u1:(List Link)) (u2:(List aJ)) (u3:Int):(aM Int (Ex Unit Int))→Exit→St→Prop:=
  LQ 0 [] (pK s_ f_ u0 u1 u2 u3) qi lT
section
variable (s_:(List Event)) (f_:Int) (u0:(List Source)) (u1:(List Link)) (u2:(List aJ)) (u3:Int)
abbrev alc:List SV:=[(sD (aD none 2 Event.cell s_)),(sD (.fn 43 2 (aiA f_ u0 u1 u2 u3)))]
abbrev ajj:St:=⟨[(WI s_),(Vk f_ u0 u1 u2 u3)],[]⟩
end
theorem zH (s_:(List Event)) (f_:Int) (u0:(List Source)) (u1:(List Link)) (u2:(List aJ)) (u3:Int) {r:Int} (h:j6 s_ f_ u0 u1 u2 u3=some r):Fn Tryz.prog 90 (alc s_ f_ u0 u1 u2 u3) [] (vI r) []:=by
 refine fN tT Tryz.func90 rfl rfl fun B=> ?_
 show bG _ _ _ _ _ _ (lT r) _
 unfold j6 at h
 refine sz tT (ajj s_ f_ u0 u1 u2 u3) {} [] ?_
 refine aQ (sz tT ⟨[(WI s_),(Vk f_ u0 u1 u2 u3),(X9 s_),(8,(vI 0))],[]⟩ {} [] ?_)
 refine bE h fun y hy h=> ?_
 refine aL [] (pK s_ f_ u0 u1 u2 u3) qi lT hy (fun s f h=> ?_) ?_
 ·clear hy
  show bG _ _ _ _ _ _ ((zR s_ f_ u0 u1 u2 u3) f) _
  unfold fI at h
  obtain⟨t8,rfl⟩: ∃q,q=s:=⟨_,rfl⟩
  refine sz tT ⟨[(WI s_),(Vk f_ u0 u1 u2 u3),(X9 s_),(8,(vI t8)),(9,(vB (decide (t8<(s_.length:Int)))))],[]⟩ {} [] ?_
  refine aQ ?_
  refine bI h (fun hb1 h=> ?_) (fun hb1 h=> ?_)
  ·refine ct hb1 ?_
   refine aP (aQ (aB (sz tT ⟨[(WI s_),(Vk f_ u0 u1 u2 u3),(5,(vI t8)),(X9 s_),(8,(vI t8))],[]⟩ {} [] ?_)))
   refine aQ (bE h fun r_ hr_ h=> ?_)
   refine aO h fun a1 h=> ?_
   have q1:=BX (at' s_ t8.toNat) f_ u0 u1 u2 u3 hr_
   refine rg tT ⟨[(WI s_),(Vk f_ u0 u1 u2 u3),(5,(vI t8)),(X9 s_),(8,(vI t8)),(16,(vB r_))],[]⟩ [_,_] {an:=[(5,cA q1 [])] } [] ⟨a1,q1,trivial⟩ ?_
   refine bI h (fun hb h=> ?_) (fun hb h=> ?_)
   ·refine ct hb ?_
    refine sz tT ⟨[(4,(vI t8))],[]⟩ {} [] ?_
    refine aR ?_
    obtain rfl:=oi h
    exact lR bY (dm 0) bZ (aW.mk (.inr rfl) (p:=[]) (l:=[(sI t8)]) (by kernel_rfl) trivial (fe.refl _) trivial)
   ·refine cf hb ?_
    refine aP (rz tT ⟨[(WI s_),(Vk f_ u0 u1 u2 u3),(X9 s_),(Zv t8)],[]⟩ {} [] ?_)
    obtain rfl:=oi h
    exact lN
  ·refine cf hb1 ?_
   refine aI (fz ⟨[],[]⟩ []) ?_
   refine aX ?_
   obtain rfl:=oi h
   exact lB
 ·clear hy
  cases y with
  |brk z=>
   unfold fE
   refine⟨_, .refl, ?_⟩
   refine sz tT ⟨[(4,(vI (-1)))],[]⟩ {} [] ?_
   refine aR ?_
   obtain rfl:=oi h
   exact rl [(sI (-1))]
  |ret v=>
   obtain rfl:=oi h
   unfold fE
   intro e st hn ha hR
   cases e with
   |normal=>exact absurd rfl hn
   |exit id=>exact hR
   |goto l=>exact hR
   |ret=>exact hR
   |panic c=>exact hR
   |outgrown=>exact hR
def w9  :Bool→Exit→St→Prop:=
  fun r=>aW TT [.tmp 4] (vB r) []
theorem wM (s_:(List Event)) (f_:Int) (u0:(List Source)) (u1:(List Link)) (u2:(List aJ)) (u3:Int) {r:Bool} (h:iO s_ f_ u0 u1 u2 u3=some r):Fn Tryz.prog 42 (alc s_ f_ u0 u1 u2 u3) [] (vB r) []:=by
 refine fN tT Tryz.func42 rfl rfl fun B=> ?_
 show bG _ _ _ _ _ _ (w9 r) _
 unfold iO at h
 refine sz tT (ajj s_ f_ u0 u1 u2 u3) {} [] ?_
 refine aQ (bE h fun r_ hr_ h=> ?_)
 have q0:=zH s_ f_ u0 u1 u2 u3 hr_
 refine rg tT (k94 r_) [_] {an:=[(2,cA q0 [])] } [] ⟨q0,trivial⟩ ?_
 refine aR ?_
 obtain rfl:=oi h
 exact rl [(sB (decide (0≤r_)))]
def EY  :(Bool × Int)→Exit→St→Prop:=
  fun r=>aW TT [.tmp 6, .tmp 7] (.iB [(sB r.1),(sI r.2)]) []
section
variable (r_:(bg × Int))
abbrev af9:Ob:=(.cells 38 [(.d (aD none 2 Event.cell r_.1.events)),(cB r_.1.cleared),(cI r_.1.millis),(cI r_.1.energy),(.d (aD none 1 af r_.1.state.closed)),(.d (aD none 1 af r_.1.state.locked)),(.d (aD none 1 af r_.1.state.badLink)),(.d (aD none 1 af r_.1.state.on_)),(.d (aD none 1 af r_.1.state.badSource)),(.d (aD none 1 af r_.1.state.earthed)),(.d (aD none 1 af r_.1.state.badBus))])
abbrev akz:TV:=(vD (oL [(aD none 2 Event.cell r_.1.events),(.bool r_.1.cleared),(.int .i64 r_.1.millis),(.int .i64 r_.1.energy),(aD none 1 af r_.1.state.closed),(aD none 1 af r_.1.state.locked),(aD none 1 af r_.1.state.badLink),(aD none 1 af r_.1.state.on_),(aD none 1 af r_.1.state.badSource),(aD none 1 af r_.1.state.earthed),(aD none 1 af r_.1.state.badBus)] 0))
abbrev aad:Nat × TV:=(8,(akz r_))
end
theorem nP (p:ah) (s_:State) (u0:Int) {r:(Bool × Int)} (h:fA p s_ u0=some r):Fn Tryz.prog 14 (Kj p s_ u0) [] (.iB [(sB r.1),(sI r.2)]) []:=by
 refine fN tT Tryz.func14 rfl rfl fun B=> ?_
 show bG _ _ _ _ _ _ (EY r) _
 unfold fA at h
 refine sz tT ⟨[(bB p),(fH s_),(5,(vD (oL [(.int .i64 u0)] 0)))],[]⟩ {fr:=[(0,13),(1,14),(2,15)] } [13,14,15] ?_
 refine aQ (bE h fun r_ hr_ h=> ?_)
 have q0:=rk [(0,16),(1,17),(2,18),(3,19),(4,20),(5,21),(6,22),(7,23),(8,24)] (jv p s_ u0 hr_)
 refine ri tT ⟨[(bB p),(5,(vD (oL [(.int .i64 u0)] 0))),(8,(vP 25 0)),(9,(vI r_.2))],[(25,some (af9 r_))]⟩ [_,r_.1.events.length=r_.1.events.length,r_.1.state.closed.length=r_.1.state.closed.length,r_.1.state.locked.length=r_.1.state.locked.length,r_.1.state.badLink.length=r_.1.state.badLink.length,r_.1.state.on_.length=r_.1.state.on_.length,r_.1.state.badSource.length=r_.1.state.badSource.length,r_.1.state.earthed.length=r_.1.state.earthed.length,r_.1.state.badBus.length=r_.1.state.badBus.length] {an:=[(3,cA q0 [])],fr:=[(7,25)] } [16,17,18,19,20,21,22,23] ⟨q0,rfl,rfl,rfl,rfl,rfl,rfl,rfl,rfl,trivial⟩ (fz ⟨[(bB p),(5,(vD (oL [(.int .i64 u0)] 0))),(aad r_),(9,(vI r_.2))],[]⟩ [25]) ?_
 refine aQ (sz tT ⟨[(bB p),(5,(vD (oL [(.int .i64 u0)] 0))),(aad r_),(9,(vI r_.2)),(18,(vB (!decide (r_.2=0))))],[]⟩ {} [] ?_)
 refine bI h (fun hb h=> ?_) (fun hb h=> ?_)
 ·refine ct hb ?_
  refine sz tT ⟨[(6,(vB false)),(7,(vI r_.2))],[]⟩ {} [] ?_
  refine aR ?_
  obtain rfl:=oi h
  exact rl [(sB false),(sI r_.2)]
 ·refine cf hb ?_
  refine aP (aQ (bE h fun u1 hr_1 h=> ?_))
  refine rg tT ⟨[(6,(vB (bif r_.1.cleared then(!u1)else false))),(7,(vI 0))],[]⟩ (eqs r_.1.cleared 4 ((gP (ic [(2,r_.1.cleared)]) [(2,true)]→All [Fn Tryz.prog 42 [(sD (aD none 2 Event.cell r_.1.events)),(sD (.fn 43 2 (wQ [(k9 p),(oL [(.int .i64 u0)] 0)])))] [] (vB u1) []])::(eqs r_.1.cleared 2 []))) {yb:=[(2,r_.1.cleared)],an:=[(6, .call [] (vB u1) [])] } [] (ae ⟨(fun hg=> ⟨(wM r_.1.events p.buses p.sources p.links p.racks u0 (fD hr_1 (aU hg))),trivial⟩),(ae trivial)⟩) ?_
  refine aR ?_
  obtain rfl:=oi h
  exact rl [(sB (bif r_.1.cleared then(!u1)else false)),(sI 0)]
def Fp  :State→Exit→St→Prop:=
  fun r=>aW TT [.cell 2 29] (.v (.agg [(.own 0 false r.closed.length),(.own 1 false r.locked.length),(.own 2 false r.badLink.length),(.own 3 false r.on_.length),(.own 4 false r.badSource.length),(.own 5 false r.earthed.length),(.own 6 false r.badBus.length)])) [(0,some (aF 4 1 af r.closed)),(1,some (aF 4 1 af r.locked)),(2,some (aF 4 1 af r.badLink)),(3,some (aF 4 1 af r.on_)),(4,some (aF 4 1 af r.badSource)),(5,some (aF 4 1 af r.earthed)),(6,some (aF 4 1 af r.badBus)),(7,none)]
section
variable (s_:State) (r_:(List Bool)) (u0:(List Bool)) (u1:(List Bool)) (u2:(List Bool)) (u3:(List Bool)) (u4:(List Bool)) (u5:(List Bool))
abbrev amj:Nat × Option Ob:=(10,some (ac5 s_))
abbrev Rz:Nat × Option Ob:=(11,some ac1)
abbrev ajm:List (Nat × TV):=[(1,(vP 10 0)),(2,(vP 11 0)),(12,(vO 12 true 7)),(13,(vI (7:Int))),(14,(vI 0))]
abbrev Tm:Nat × Option Ob:=(12,some (.cells 233 [(.ptr 10 0),(.ptr 10 1),(.ptr 10 2),(.ptr 10 3),(.ptr 10 4),(.ptr 10 5),(.ptr 10 6)]))
abbrev agZ:List (Nat × Option Ob):=[(amj s_),Rz,Tm]
abbrev adO:List (Nat × Option Ob):=[(10,some (.cells 29 [(.own 13 false r_.length),(.d (KF s_)),(.d (MP s_)),(.d (Ht s_)),(.d (Jy s_)),(.d (EW s_)),(.d (Ga s_))])),Rz,Tm,(Ri r_)]
abbrev ame:List (Nat × TV):=[(1,(vP 10 0)),(2,(vP 11 0)),(12,(vO 12 true 7)),(13,(vI (7:Int))),(14,(vI 1))]
abbrev adE:List (Nat × Option Ob):=[(10,some (.cells 29 [(.own 13 false r_.length),(.own 14 false u0.length),(.d (MP s_)),(.d (Ht s_)),(.d (Jy s_)),(.d (EW s_)),(.d (Ga s_))])),Rz,Tm,(Ri r_),(Un u0)]
abbrev amD:List (Nat × TV):=[(1,(vP 10 0)),(2,(vP 11 0)),(12,(vO 12 true 7)),(13,(vI (7:Int))),(14,(vI 2))]
abbrev ad8:List (Nat × Option Ob):=[(10,some (.cells 29 [(.own 13 false r_.length),(.own 14 false u0.length),(.own 15 false u1.length),(.d (Ht s_)),(.d (Jy s_)),(.d (EW s_)),(.d (Ga s_))])),Rz,Tm,(Ri r_),(Un u0),(Wm u1)]
abbrev aiu:List (Nat × TV):=[(1,(vP 10 0)),(2,(vP 11 0)),(12,(vO 12 true 7)),(13,(vI (7:Int))),(14,(vI 3))]
abbrev acY:List (Nat × Option Ob):=[(10,some (.cells 29 [(.own 13 false r_.length),(.own 14 false u0.length),(.own 15 false u1.length),(.own 16 false u2.length),(.d (Jy s_)),(.d (EW s_)),(.d (Ga s_))])),Rz,Tm,(Ri r_),(Un u0),(Wm u1),(X7 u2)]
abbrev akP:List (Nat × TV):=[(1,(vP 10 0)),(2,(vP 11 0)),(12,(vO 12 true 7)),(13,(vI (7:Int))),(14,(vI 4))]
abbrev aeu:List (Nat × Option Ob):=[(10,some (.cells 29 [(.own 13 false r_.length),(.own 14 false u0.length),(.own 15 false u1.length),(.own 16 false u2.length),(.own 17 false u3.length),(.d (EW s_)),(.d (Ga s_))])),Rz,Tm,(Ri r_),(Un u0),(Wm u1),(X7 u2),(17,some (aF 4 1 af u3))]
abbrev alY:List (Nat × TV):=[(1,(vP 10 0)),(2,(vP 11 0)),(12,(vO 12 true 7)),(13,(vI (7:Int))),(14,(vI 5))]
abbrev adj:List (Nat × Option Ob):=[(10,some (.cells 29 [(.own 13 false r_.length),(.own 14 false u0.length),(.own 15 false u1.length),(.own 16 false u2.length),(.own 17 false u3.length),(.own 18 false u4.length),(.d (Ga s_))])),Rz,Tm,(Ri r_),(Un u0),(Wm u1),(X7 u2),(17,some (aF 4 1 af u3)),(18,some (aF 4 1 af u4))]
abbrev aiM:List (Nat × TV):=[(1,(vP 10 0)),(2,(vP 11 0)),(12,(vO 12 true 7)),(13,(vI (7:Int))),(14,(vI 6))]
abbrev ais:Ob:=(.cells 29 [(.own 13 false r_.length),(.own 14 false u0.length),(.own 15 false u1.length),(.own 16 false u2.length),(.own 17 false u3.length),(.own 18 false u4.length),(.own 19 false u5.length)])
abbrev ahl:List (Nat × Option Ob):=[(10,some (ais r_ u0 u1 u2 u3 u4 u5)),Rz,Tm,(Ri r_),(Un u0),(Wm u1),(X7 u2),(17,some (aF 4 1 af u3)),(18,some (aF 4 1 af u4)),(19,some (aF 4 1 af u5))]
end
theorem ED (s_:State) {r:State} (h:nR s_=some r):Fn Tryz.prog 117 (ahz s_) [] (.v (.agg [(.own 0 false r.closed.length),(.own 1 false r.locked.length),(.own 2 false r.badLink.length),(.own 3 false r.on_.length),(.own 4 false r.badSource.length),(.own 5 false r.earthed.length),(.own 6 false r.badBus.length)])) [(0,some (aF 4 1 af r.closed)),(1,some (aF 4 1 af r.locked)),(2,some (aF 4 1 af r.badLink)),(3,some (aF 4 1 af r.on_)),(4,some (aF 4 1 af r.badSource)),(5,some (aF 4 1 af r.earthed)),(6,some (aF 4 1 af r.badBus)),(7,none)]:=by
 refine fN tT Tryz.func117 rfl rfl fun B=> ?_
 show bG _ _ _ _ _ _ (Fp r) _
 unfold nR at h
 refine sz tT ⟨[(1,(vP 10 0)),(2,(vP 11 0))],[(amj s_),Rz]⟩ {fr:=[(0,10),(1,11)] } [] ?_
 refine aQ (sz tT ⟨ajm,(agZ s_)⟩ {an:=[(7, .cells)],fr:=[(7,12)] } [] ?_)
 refine aB (PN 12 (jS 11 (sz tT ⟨[(1,(vP 10 0)),(2,(vP 11 0)),(12,(vO 12 true 7)),(13,(vI (7:Int))),(14,(vI 0)),(15,(vB true))],(agZ s_)⟩ {} [] ?_)))
 refine aQ (ck (aP (aQ (aB (aQ (aO h fun a1 h=> ?_))))))
 refine rg tT ⟨[(1,(vP 10 0)),(2,(vP 11 0)),(4,(vP 10 0)),(12,(vO 12 true 7)),(13,(vI (7:Int))),(14,(vI 0))],(agZ s_)⟩ [_] {} [] ⟨a1,trivial⟩ ?_
 refine bE h fun r_ hr_ h=> ?_
 have q0:=rk [(0,13)] (aZ s_.closed hr_)
 refine rg tT ⟨ajm,(adO s_ r_)⟩ [_] {an:=[(4,cA q0 [])] } [] ⟨q0,trivial⟩ ?_
 refine rz tT ⟨ame,(adO s_ r_)⟩ {} [] ?_
 refine jS 10 (sz tT ⟨[(1,(vP 10 0)),(2,(vP 11 0)),(12,(vO 12 true 7)),(13,(vI (7:Int))),(14,(vI 1)),(15,(vB true))],(adO s_ r_)⟩ {} [] ?_)
 refine aQ (ck (aP (aQ (aB (aQ (aO h fun a1 h=> ?_))))))
 refine rg tT ⟨[(1,(vP 10 0)),(2,(vP 11 0)),(4,(vP 10 1)),(12,(vO 12 true 7)),(13,(vI (7:Int))),(14,(vI 1))],(adO s_ r_)⟩ [_] {} [] ⟨a1,trivial⟩ ?_
 refine bE h fun u0 hr_1 h=> ?_
 have q0:=rk [(0,14)] (aZ s_.locked hr_1)
 refine rg tT ⟨ame,(adE s_ r_ u0)⟩ [_] {an:=[(4,cA q0 [])] } [] ⟨q0,trivial⟩ ?_
 refine rz tT ⟨amD,(adE s_ r_ u0)⟩ {} [] ?_
 refine jS 9 (sz tT ⟨[(1,(vP 10 0)),(2,(vP 11 0)),(12,(vO 12 true 7)),(13,(vI (7:Int))),(14,(vI 2)),(15,(vB true))],(adE s_ r_ u0)⟩ {} [] ?_)
 refine aQ (ck (aP (aQ (aB (aQ (aO h fun a1 h=> ?_))))))
 refine rg tT ⟨[(1,(vP 10 0)),(2,(vP 11 0)),(4,(vP 10 2)),(12,(vO 12 true 7)),(13,(vI (7:Int))),(14,(vI 2))],(adE s_ r_ u0)⟩ [_] {} [] ⟨a1,trivial⟩ ?_
 refine bE h fun u1 hr_2 h=> ?_
 have q0:=rk [(0,15)] (aZ s_.badLink hr_2)
 refine rg tT ⟨amD,(ad8 s_ r_ u0 u1)⟩ [_] {an:=[(4,cA q0 [])] } [] ⟨q0,trivial⟩ ?_
 refine rz tT ⟨aiu,(ad8 s_ r_ u0 u1)⟩ {} [] ?_
 refine jS 8 (sz tT ⟨[(1,(vP 10 0)),(2,(vP 11 0)),(12,(vO 12 true 7)),(13,(vI (7:Int))),(14,(vI 3)),(15,(vB true))],(ad8 s_ r_ u0 u1)⟩ {} [] ?_)
 refine aQ (ck (aP (aQ (aB (aQ (aO h fun a1 h=> ?_))))))
 refine rg tT ⟨[(1,(vP 10 0)),(2,(vP 11 0)),(4,(vP 10 3)),(12,(vO 12 true 7)),(13,(vI (7:Int))),(14,(vI 3))],(ad8 s_ r_ u0 u1)⟩ [_] {} [] ⟨a1,trivial⟩ ?_
 refine bE h fun u2 hr_3 h=> ?_
 have q0:=rk [(0,16)] (aZ s_.on_ hr_3)
 refine rg tT ⟨aiu,(acY s_ r_ u0 u1 u2)⟩ [_] {an:=[(4,cA q0 [])] } [] ⟨q0,trivial⟩ ?_
 refine rz tT ⟨akP,(acY s_ r_ u0 u1 u2)⟩ {} [] ?_
 refine jS 7 (sz tT ⟨[(1,(vP 10 0)),(2,(vP 11 0)),(12,(vO 12 true 7)),(13,(vI (7:Int))),(14,(vI 4)),(15,(vB true))],(acY s_ r_ u0 u1 u2)⟩ {} [] ?_)
 refine aQ (ck (aP (aQ (aB (aQ (aO h fun a1 h=> ?_))))))
 refine rg tT ⟨[(1,(vP 10 0)),(2,(vP 11 0)),(4,(vP 10 4)),(12,(vO 12 true 7)),(13,(vI (7:Int))),(14,(vI 4))],(acY s_ r_ u0 u1 u2)⟩ [_] {} [] ⟨a1,trivial⟩ ?_
 refine bE h fun u3 hr_4 h=> ?_
 have q0:=rk [(0,17)] (aZ s_.badSource hr_4)
 refine rg tT ⟨akP,(aeu s_ r_ u0 u1 u2 u3)⟩ [_] {an:=[(4,cA q0 [])] } [] ⟨q0,trivial⟩ ?_
 refine rz tT ⟨alY,(aeu s_ r_ u0 u1 u2 u3)⟩ {} [] ?_
 refine jS 6 (sz tT ⟨[(1,(vP 10 0)),(2,(vP 11 0)),(12,(vO 12 true 7)),(13,(vI (7:Int))),(14,(vI 5)),(15,(vB true))],(aeu s_ r_ u0 u1 u2 u3)⟩ {} [] ?_)
 refine aQ (ck (aP (aQ (aB (aQ (aO h fun a1 h=> ?_))))))
 refine rg tT ⟨[(1,(vP 10 0)),(2,(vP 11 0)),(4,(vP 10 5)),(12,(vO 12 true 7)),(13,(vI (7:Int))),(14,(vI 5))],(aeu s_ r_ u0 u1 u2 u3)⟩ [_] {} [] ⟨a1,trivial⟩ ?_
 refine bE h fun u4 hr_5 h=> ?_
 have q0:=rk [(0,18)] (aZ s_.earthed hr_5)
 refine rg tT ⟨alY,(adj s_ r_ u0 u1 u2 u3 u4)⟩ [_] {an:=[(4,cA q0 [])] } [] ⟨q0,trivial⟩ ?_
 refine rz tT ⟨aiM,(adj s_ r_ u0 u1 u2 u3 u4)⟩ {} [] ?_
 refine jS 5 (sz tT ⟨[(1,(vP 10 0)),(2,(vP 11 0)),(12,(vO 12 true 7)),(13,(vI (7:Int))),(14,(vI 6)),(15,(vB true))],(adj s_ r_ u0 u1 u2 u3 u4)⟩ {} [] ?_)
 refine aQ (ck (aP (aQ (aB (aQ (aO h fun a1 h=> ?_))))))
 refine rg tT ⟨[(1,(vP 10 0)),(2,(vP 11 0)),(4,(vP 10 6)),(12,(vO 12 true 7)),(13,(vI (7:Int))),(14,(vI 6))],(adj s_ r_ u0 u1 u2 u3 u4)⟩ [_] {} [] ⟨a1,trivial⟩ ?_
 refine bE h fun u5 hr_6 h=> ?_
 have q0:=rk [(0,19)] (aZ s_.badBus hr_6)
 refine rg tT ⟨aiM,(ahl r_ u0 u1 u2 u3 u4 u5)⟩ [_] {an:=[(4,cA q0 [])] } [] ⟨q0,trivial⟩ ?_
 refine rz tT ⟨[(1,(vP 10 0)),(2,(vP 11 0)),(12,(vO 12 true 7)),(13,(vI (7:Int))),(14,(vI 7))],(ahl r_ u0 u1 u2 u3 u4 u5)⟩ {} [] ?_
 refine jS 4 (sz tT ⟨[(1,(vP 10 0)),(2,(vP 11 0)),(12,(vO 12 true 7)),(13,(vI (7:Int))),(14,(vI 7)),(15,(vB false))],(ahl r_ u0 u1 u2 u3 u4 u5)⟩ {} [] ?_)
 refine aQ (cn (aX (sz tT ⟨[(2,(vP 11 0))],[(11,some (ais r_ u0 u1 u2 u3 u4 u5)),(Ri r_),(Un u0),(Wm u1),(X7 u2),(17,some (aF 4 1 af u3)),(18,some (aF 4 1 af u4)),(19,some (aF 4 1 af u5))]⟩ {} [] ?_)))
 refine aI (bJ.fin (st':=(afX r_ u1 u2 u3 u4 u0 u5)) (cs:=[]) ⟨[],[(13,0),(14,1),(15,2),(16,3),(17,4),(18,5),(19,6),(11,7)]⟩ [2] (by kernel_rfl) trivial) ?_
 refine aR ?_
 obtain rfl:=oi h
 exact rh (agk r_ u1 u2 u3 u4 u0 u5) (.refl _) (hN 7 ⟨rfl,trivial,trivial⟩)
def Jb  :(State × Int)→Exit→St→Prop:=
  fun r=>aW TT [.cell 8 29, .tmp 9] (.iB [(.agg [(.d (aD none 1 af r.1.closed)),(.d (aD none 1 af r.1.locked)),(.d (aD none 1 af r.1.badLink)),(.d (aD none 1 af r.1.on_)),(.d (aD none 1 af r.1.badSource)),(.d (aD none 1 af r.1.earthed)),(.d (aD none 1 af r.1.badBus))]),(sI r.2)]) []
section
variable (s_:State) (x:Part) (u0:State) (is:Bool)
abbrev Nh:Nat × Option Ob:=(22,some ac1)
abbrev ahy:List (Nat × Option Ob):=[(20,some (ac5 s_)),(21,some (.cells 112 [(cI x.kind),(cI x.index)])),Nh]
abbrev CQ:DV:=(aD none 1 af ([]:List Bool))
abbrev aiT:Nat × TV:=(8,(vD (oL [CQ,CQ,CQ,CQ,CQ,CQ,CQ] 0)))
abbrev ajN:List CV:=[(.d CQ),(.d CQ),(.d CQ),(.d CQ),(.d CQ),(.d CQ),(.d CQ)]
abbrev adg:Nat × Option Ob:=(20,some (.cells 29 [(.own 23 false u0.closed.length),(.own 24 false u0.locked.length),(.own 25 false u0.badLink.length),(.own 26 false u0.on_.length),(.own 27 false u0.badSource.length),(.own 28 false u0.earthed.length),(.own 29 false u0.badBus.length)]))
abbrev Ve:Nat × Option Ob:=(23,some (aF 4 1 af u0.closed))
abbrev Wt:Nat × Option Ob:=(24,some (aF 4 1 af u0.locked))
abbrev acr:Nat × Option Ob:=(25,some (aF 4 1 af u0.badLink))
abbrev WZ:Nat × Option Ob:=(26,some (aF 4 1 af u0.on_))
abbrev Z9:Nat × Option Ob:=(27,some (aF 4 1 af u0.badSource))
abbrev VI:Nat × Option Ob:=(28,some (aF 4 1 af u0.earthed))
abbrev abj:Nat × Option Ob:=(29,some (aF 4 1 af u0.badBus))
abbrev Qh:List (Nat × Option Ob):=[(adg u0),(21,some (.cells 112 [(cI x.kind),(cI x.index)])),Nh,(Ve u0),(Wt u0),(acr u0),(WZ u0),(Z9 u0),(VI u0),(abj u0)]
abbrev WK:List CV:=[(.own 29 false u0.badBus.length)]
abbrev KC:=(ZY 1 (WK u0))
abbrev Yk:List CV:=[(.own 27 false u0.badSource.length)]
abbrev KM:List DV:=[(.int .i64 1),(.int .i64 2)]
abbrev Kz:=(ZY 1 [(.own 29 false u0.badBus.length),(.own 27 false u0.badSource.length)])
abbrev ZF:List CV:=[(.own 25 false u0.badLink.length)]
abbrev Kg:List DV:=[(.int .i64 1),(.int .i64 2),(.int .i64 3)]
abbrev K5:=(ZY 1 [(.own 29 false u0.badBus.length),(.own 27 false u0.badSource.length),(.own 25 false u0.badLink.length)])
abbrev aem:St:=⟨[(8,(vD (oL [nS,nS,nS,nS,nS,nS,nS] 0))),(9,(vI 14))],[]⟩
abbrev acR:St:=⟨[aiT,(9,(vI 14))],[]⟩
abbrev adL:List SV:=[(.agg ajN),(sI 14)]
abbrev ZC:List (Nat × TV):=[(5,(vP 20 0)),(8,(vP 22 0))]
abbrev alb:List CV:=[(.d (QK u0)),(.d (KF u0)),(.d (MP u0)),(.d (Ht u0)),(.d (Jy u0)),(.d (EW u0)),(.d (aD none 1 af (u0.badBus.set x.index.toNat is)))]
abbrev Rc:=(u0.badSource.set x.index.toNat is)
abbrev alX:List CV:=[(.d (QK u0)),(.d (KF u0)),(.d (MP u0)),(.d (Ht u0)),(.d (aD none 1 af (Rc x u0 is))),(.d (EW u0)),(.d (Ga u0))]
abbrev Rb:=(u0.badLink.set x.index.toNat is)
abbrev ak3:List CV:=[(.d (QK u0)),(.d (KF u0)),(.d (aD none 1 af (Rb x u0 is))),(.d (Ht u0)),(.d (Jy u0)),(.d (EW u0)),(.d (Ga u0))]
end
theorem IQ (p:ah) (s_:State) (x:Part) (is:Bool) {r:(State × Int)} (h:rE p s_ x is=some r):Fn Tryz.prog 91 [(.agg (k3 p)),(.agg (Rx s_)),(.agg [(cI x.kind),(cI x.index)]),(sB is)] [] (.iB [(.agg [(.d (aD none 1 af r.1.closed)),(.d (aD none 1 af r.1.locked)),(.d (aD none 1 af r.1.badLink)),(.d (aD none 1 af r.1.on_)),(.d (aD none 1 af r.1.badSource)),(.d (aD none 1 af r.1.earthed)),(.d (aD none 1 af r.1.badBus))]),(sI r.2)]) []:=by
 refine fN tT Tryz.func91 rfl rfl fun B=> ?_
 show bG _ _ _ _ _ _ (Jb r) _
 unfold rE at h
 refine sz tT ⟨[(3,(vB is)),(4,(k8 p)),(5,(vP 20 0)),(6,(vP 21 0)),(8,(vP 22 0))],(ahy s_ x)⟩ {fr:=[(0,19),(1,20),(2,21),(3,22)] } [19] ?_
 refine aQ (aQ (bE h fun r_ hr_ h=> ?_))
 have q0:=j4 p s_ hr_
 refine rg tT ⟨[(3,(vB is)),(5,(vP 20 0)),(6,(vP 21 0)),(8,(vP 22 0)),(10,(vI r_))],(ahy s_ x)⟩ [_] {an:=[(2,cA q0 [])] } [] ⟨q0,trivial⟩ ?_
 refine sz tT ⟨[(3,(vB is)),(5,(vP 20 0)),(6,(vP 21 0)),(8,(vP 22 0)),(10,(vI r_)),(16,(vB (!decide (r_=0))))],(ahy s_ x)⟩ {} [] ?_
 refine bI h (fun hb7 h=> ?_) (fun hb7 h=> ?_)
 ·refine ct hb7 ?_
  refine sz tT ⟨[(8,(vD (oL [nS,nS,nS,nS,nS,nS,nS] 0))),(9,(vI r_))],[]⟩ {} [22] ?_
  refine aI (bJ.le (st':=⟨[aiT,(9,(vI r_))],[]⟩) ⟨⟨⟨_,rfl,fe.v (jB.one (bH.d (Li ⟨dR.nil',dR.nil',dR.nil',dR.nil',dR.nil',dR.nil',dR.nil',trivial⟩)))⟩,tR,trivial⟩,trivial⟩) ?_
  refine aR ?_
  obtain rfl:=oi h
  exact rl [(.agg ajN),(sI r_)]
 ·refine cf hb7 ?_
  refine aP (aQ (bE h fun u0 hr_1 h=> ?_))
  have q0:=rk [(0,23),(1,24),(2,25),(3,26),(4,27),(5,28),(6,29),(7,30)] (ED s_ hr_1)
  refine rg tT ⟨[(3,(vB is)),(5,(vP 20 0)),(6,(vP 21 0)),(8,(vP 22 0))],(Qh x u0)⟩ [_] {an:=[(1,cA q0 [])] } [] ⟨q0,trivial⟩ ?_
  refine aQ ?_
  refine bI h (fun hb h=> ?_) (fun hb h=> ?_)
  ·skip
   refine rg tT ⟨[(3,(vB is)),(5,(vP 20 0)),(6,(vP 21 0)),(8,(vP 22 0)),(11,(vO 29 false u0.badBus.length))],(Qh x u0)⟩ [uL [some .i64] 1 1 0 (yP []) (ZY 1 []) [(.int .i64 1)] (WK u0) [29] 1 (yP [(.int .i64 1)]) (KC u0),uL [some .i64] 1 1 1 (yP [(.int .i64 1)]) (KC u0) [(.int .i64 2)] (Yk u0) [29,27] 2 (yP KM) (Kz u0),uL [some .i64] 1 1 2 (yP KM) (Kz u0) [(.int .i64 3)] (ZF u0) [29,27,25] 3 (yP Kg) (K5 u0),tV [some .i64] 1 1 3 (yP Kg) (K5 u0) [(.int .i64 x.kind)] [(.d nS)] true (WK u0)] {an:=[(0, .map 0 (yP []) (ZY 1 []) []),(3, .map 1 (yP [(.int .i64 1)]) (KC u0) [29]),(6, .map 2 (yP KM) (Kz u0) [29,27]),(9, .map 3 (yP Kg) (K5 u0) [29,27,25]),(13, .look true (WK u0))],fr:=[(0,32)] } [] ⟨(⟨(fun i hi=>absurd hi (Nat.not_lt_zero i)),(by intro i hi j hj;match i,j,hi,hj with|0,0,_,_=>exact cK.1 (show iy (CV.dz (.own 29 false u0.badBus.length)) [29]=true from by kernel_rfl)),0,(fun i hi=>absurd hi (Nat.not_lt_zero i)), .inr ⟨rfl,rfl⟩,rfl,rfl,(fun i hi=>absurd hi (Nat.not_lt_zero i))⟩),(⟨(by intro i hi;match i,hi with|0,_=>rfl),(by intro i hi j hj;match i,j,hi,hj with|0,0,_,_=>exact cK.1 (show iy (CV.dz (.own 29 false u0.badBus.length)) [29,27]=true from by kernel_rfl)|1,0,_,_=>exact cK.1 (show iy (CV.dz (.own 27 false u0.badSource.length)) [29,27]=true from by kernel_rfl)),1,(by intro i hi;match i,hi with|0,_=>rfl), .inr ⟨rfl,rfl⟩,rfl,rfl,(by intro i hi;match i,hi with|0,_=>exact fun _=> ⟨rfl,rfl⟩)⟩),(⟨(by intro i hi;match i,hi with|0,_=>rfl|1,_=>rfl),(by intro i hi j hj;match i,j,hi,hj with|0,0,_,_=>exact cK.1 (show iy (CV.dz (.own 29 false u0.badBus.length)) [29,27,25]=true from by kernel_rfl)|1,0,_,_=>exact cK.1 (show iy (CV.dz (.own 27 false u0.badSource.length)) [29,27,25]=true from by kernel_rfl)|2,0,_,_=>exact cK.1 (show iy (CV.dz (.own 25 false u0.badLink.length)) [29,27,25]=true from by kernel_rfl)),2,(by intro i hi;match i,hi with|0,_=>rfl|1,_=>rfl), .inr ⟨rfl,rfl⟩,rfl,rfl,(by intro i hi;match i,hi with|0,_=>exact fun _=> ⟨rfl,rfl⟩|1,_=>exact fun _=> ⟨rfl,rfl⟩)⟩),(⟨(by intro i hi;match i,hi with|0,_=>rfl|1,_=>rfl|2,_=>rfl), .inl ⟨rfl,0,by decide,congrArg some hb,(fun i hi=>absurd hi (Nat.not_lt_zero i)),rfl⟩⟩),trivial⟩ ?_
   refine aQ (aQ (bE h fun u1 hr_2 h=> ?_))
   have q0:=aV x.index 0 (IntKind.wrap .i64 ((u0.badBus.length:Int) - 1)) hr_2
   refine rg tT ⟨[(3,(vB is)),(5,(vP 20 0)),(6,(vP 21 0)),(8,(vP 22 0)),(11,(vO 29 false u0.badBus.length)),(38,(vB (!u1)))],(Qh x u0)⟩ [_] {an:=[(5,cA q0 [])] } [] ⟨q0,trivial⟩ ?_
   refine bI h (fun hb1 h=> ?_) (fun hb1 h=> ?_)
   ·refine ct hb1 ?_
    refine sz tT aem {} [22] ?_
    refine aI (bJ.le (st':=acR) ⟨⟨⟨_,rfl,fe.v (jB.one (bH.d (Li ⟨dR.nil',dR.nil',dR.nil',dR.nil',dR.nil',dR.nil',dR.nil',trivial⟩)))⟩,tR,trivial⟩,trivial⟩) ?_
    refine aR ?_
    obtain rfl:=oi h
    exact rl adL
   ·refine cf hb1 ?_
    refine aP (aQ (aO h fun a1 h=> ?_))
    refine ri tT ⟨ZC,[(adg u0),Nh,(Ve u0),(Wt u0),(acr u0),(WZ u0),(Z9 u0),(VI u0),(29,some (.arr 4 1 u0.badBus.length (au af (u0.badBus.set x.index.toNat is))))]⟩ [_,_,aT u0.badBus.length 1 (lH (au af u0.badBus) x.index.toNat 0 [(.bool is)]) (au af (u0.badBus.set x.index.toNat is))] {an:=[(5, .arr 0 (au af (u0.badBus.set x.index.toNat is)))] } [] ⟨a1,(tL a1),(dD _ _ _ _ _ _ _ _ rfl (fun j hj=>(match j,hj with|0,_=>rfl))),trivial⟩ (bJ.le (st':=⟨ZC,[(20,some (.cells 29 [(.own 23 false u0.closed.length),(.own 24 false u0.locked.length),(.own 25 false u0.badLink.length),(.own 26 false u0.on_.length),(.own 27 false u0.badSource.length),(.own 28 false u0.earthed.length),(.own 29 false ((u0.badBus.set x.index.toNat is).length))])),Nh,(Ve u0),(Wt u0),(acr u0),(WZ u0),(Z9 u0),(VI u0),(29,some (aF 4 1 af (u0.badBus.set x.index.toNat is)))]⟩) ⟨⟨tR,tR,trivial⟩,⟨rfl,fG ⟨bH.refl _,bH.refl _,bH.refl _,bH.refl _,bH.refl _,bH.refl _,cW,trivial⟩,(hN 7 ⟨rfl,oW,trivial⟩)⟩⟩) ?_
    refine si tT ⟨[(8,(vP 22 0)),(9,(vI 0))],[(22,some (.cells 29 (alb x u0 is)))]⟩ [u0.closed.length=u0.closed.length,u0.locked.length=u0.locked.length,u0.badLink.length=u0.badLink.length,u0.on_.length=u0.on_.length,u0.badSource.length=u0.badSource.length,u0.earthed.length=u0.earthed.length,(u0.badBus.set x.index.toNat is).length=(u0.badBus.set x.index.toNat is).length] {} [23,24,25,26,27,28,29] ⟨rfl,rfl,rfl,rfl,rfl,rfl,rfl,trivial⟩ (fz ⟨[(8,(vD (oL [(QK u0),(KF u0),(MP u0),(Ht u0),(Jy u0),(EW u0),(aD none 1 af (u0.badBus.set x.index.toNat is))] 0))),(9,(vI 0))],[]⟩ [22]) ?_
    refine aR ?_
    obtain rfl:=oi h
    exact rl [(.agg (alb x u0 is)),(sI 0)]
  ·skip
   refine bI h (fun hb2 h=> ?_) (fun hb2 h=> ?_)
   ·skip
    refine rg tT ⟨[(3,(vB is)),(5,(vP 20 0)),(6,(vP 21 0)),(8,(vP 22 0)),(11,(vO 27 false u0.badSource.length))],(Qh x u0)⟩ [uL [some .i64] 1 1 0 (yP []) (ZY 1 []) [(.int .i64 1)] (WK u0) [29] 1 (yP [(.int .i64 1)]) (KC u0),uL [some .i64] 1 1 1 (yP [(.int .i64 1)]) (KC u0) [(.int .i64 2)] (Yk u0) [29,27] 2 (yP KM) (Kz u0),uL [some .i64] 1 1 2 (yP KM) (Kz u0) [(.int .i64 3)] (ZF u0) [29,27,25] 3 (yP Kg) (K5 u0),tV [some .i64] 1 1 3 (yP Kg) (K5 u0) [(.int .i64 x.kind)] [(.d nS)] true (Yk u0)] {an:=[(0, .map 0 (yP []) (ZY 1 []) []),(3, .map 1 (yP [(.int .i64 1)]) (KC u0) [29]),(6, .map 2 (yP KM) (Kz u0) [29,27]),(9, .map 3 (yP Kg) (K5 u0) [29,27,25]),(13, .look true (Yk u0))],fr:=[(0,34)] } [] ⟨(⟨(fun i hi=>absurd hi (Nat.not_lt_zero i)),(by intro i hi j hj;match i,j,hi,hj with|0,0,_,_=>exact cK.1 (show iy (CV.dz (.own 29 false u0.badBus.length)) [29]=true from by kernel_rfl)),0,(fun i hi=>absurd hi (Nat.not_lt_zero i)), .inr ⟨rfl,rfl⟩,rfl,rfl,(fun i hi=>absurd hi (Nat.not_lt_zero i))⟩),(⟨(by intro i hi;match i,hi with|0,_=>rfl),(by intro i hi j hj;match i,j,hi,hj with|0,0,_,_=>exact cK.1 (show iy (CV.dz (.own 29 false u0.badBus.length)) [29,27]=true from by kernel_rfl)|1,0,_,_=>exact cK.1 (show iy (CV.dz (.own 27 false u0.badSource.length)) [29,27]=true from by kernel_rfl)),1,(by intro i hi;match i,hi with|0,_=>rfl), .inr ⟨rfl,rfl⟩,rfl,rfl,(by intro i hi;match i,hi with|0,_=>exact fun _=> ⟨rfl,rfl⟩)⟩),(⟨(by intro i hi;match i,hi with|0,_=>rfl|1,_=>rfl),(by intro i hi j hj;match i,j,hi,hj with|0,0,_,_=>exact cK.1 (show iy (CV.dz (.own 29 false u0.badBus.length)) [29,27,25]=true from by kernel_rfl)|1,0,_,_=>exact cK.1 (show iy (CV.dz (.own 27 false u0.badSource.length)) [29,27,25]=true from by kernel_rfl)|2,0,_,_=>exact cK.1 (show iy (CV.dz (.own 25 false u0.badLink.length)) [29,27,25]=true from by kernel_rfl)),2,(by intro i hi;match i,hi with|0,_=>rfl|1,_=>rfl), .inr ⟨rfl,rfl⟩,rfl,rfl,(by intro i hi;match i,hi with|0,_=>exact fun _=> ⟨rfl,rfl⟩|1,_=>exact fun _=> ⟨rfl,rfl⟩)⟩),(⟨(by intro i hi;match i,hi with|0,_=>rfl|1,_=>rfl|2,_=>rfl), .inl ⟨rfl,1,by decide,congrArg some hb2,(by intro i hi;match i,hi with|0,_=>exact congrArg some hb),rfl⟩⟩),trivial⟩ ?_
    refine aQ (aQ (bE h fun u2 hr_3 h=> ?_))
    have q0:=aV x.index 0 (IntKind.wrap .i64 ((u0.badSource.length:Int) - 1)) hr_3
    refine rg tT ⟨[(3,(vB is)),(5,(vP 20 0)),(6,(vP 21 0)),(8,(vP 22 0)),(11,(vO 27 false u0.badSource.length)),(38,(vB (!u2)))],(Qh x u0)⟩ [_] {an:=[(5,cA q0 [])] } [] ⟨q0,trivial⟩ ?_
    refine bI h (fun hb3 h=> ?_) (fun hb3 h=> ?_)
    ·refine ct hb3 ?_
     refine sz tT aem {} [22] ?_
     refine aI (bJ.le (st':=acR) ⟨⟨⟨_,rfl,fe.v (jB.one (bH.d (Li ⟨dR.nil',dR.nil',dR.nil',dR.nil',dR.nil',dR.nil',dR.nil',trivial⟩)))⟩,tR,trivial⟩,trivial⟩) ?_
     refine aR ?_
     obtain rfl:=oi h
     exact rl adL
    ·refine cf hb3 ?_
     refine aP (aQ (aO h fun a1 h=> ?_))
     refine ri tT ⟨ZC,[(adg u0),Nh,(Ve u0),(Wt u0),(acr u0),(WZ u0),(27,some (.arr 4 1 u0.badSource.length (au af (Rc x u0 is)))),(VI u0),(abj u0)]⟩ [_,_,aT u0.badSource.length 1 (lH (au af u0.badSource) x.index.toNat 0 [(.bool is)]) (au af (Rc x u0 is))] {an:=[(5, .arr 0 (au af (Rc x u0 is)))] } [] ⟨a1,(tL a1),(dD _ _ _ _ _ _ _ _ rfl (fun j hj=>(match j,hj with|0,_=>rfl))),trivial⟩ (bJ.le (st':=⟨ZC,[(20,some (.cells 29 [(.own 23 false u0.closed.length),(.own 24 false u0.locked.length),(.own 25 false u0.badLink.length),(.own 26 false u0.on_.length),(.own 27 false ((Rc x u0 is).length)),(.own 28 false u0.earthed.length),(.own 29 false u0.badBus.length)])),Nh,(Ve u0),(Wt u0),(acr u0),(WZ u0),(27,some (aF 4 1 af (Rc x u0 is))),(VI u0),(abj u0)]⟩) ⟨⟨tR,tR,trivial⟩,⟨rfl,fG ⟨bH.refl _,bH.refl _,bH.refl _,bH.refl _,cW,bH.refl _,bH.refl _,trivial⟩,(hN 5 ⟨rfl,oW,(.refl _)⟩)⟩⟩) ?_
     refine si tT ⟨[(8,(vP 22 0)),(9,(vI 0))],[(22,some (.cells 29 (alX x u0 is)))]⟩ [u0.closed.length=u0.closed.length,u0.locked.length=u0.locked.length,u0.badLink.length=u0.badLink.length,u0.on_.length=u0.on_.length,(Rc x u0 is).length=(Rc x u0 is).length,u0.earthed.length=u0.earthed.length,u0.badBus.length=u0.badBus.length] {} [23,24,25,26,27,28,29] ⟨rfl,rfl,rfl,rfl,rfl,rfl,rfl,trivial⟩ (fz ⟨[(8,(vD (oL [(QK u0),(KF u0),(MP u0),(Ht u0),(aD none 1 af (Rc x u0 is)),(EW u0),(Ga u0)] 0))),(9,(vI 0))],[]⟩ [22]) ?_
     refine aR ?_
     obtain rfl:=oi h
     exact rl [(.agg (alX x u0 is)),(sI 0)]
   ·skip
    refine bI h (fun hb4 h=> ?_) (fun hb4 h=> ?_)
    ·skip
     refine rg tT ⟨[(3,(vB is)),(5,(vP 20 0)),(6,(vP 21 0)),(8,(vP 22 0)),(11,(vO 25 false u0.badLink.length))],(Qh x u0)⟩ [uL [some .i64] 1 1 0 (yP []) (ZY 1 []) [(.int .i64 1)] (WK u0) [29] 1 (yP [(.int .i64 1)]) (KC u0),uL [some .i64] 1 1 1 (yP [(.int .i64 1)]) (KC u0) [(.int .i64 2)] (Yk u0) [29,27] 2 (yP KM) (Kz u0),uL [some .i64] 1 1 2 (yP KM) (Kz u0) [(.int .i64 3)] (ZF u0) [29,27,25] 3 (yP Kg) (K5 u0),tV [some .i64] 1 1 3 (yP Kg) (K5 u0) [(.int .i64 x.kind)] [(.d nS)] true (ZF u0)] {an:=[(0, .map 0 (yP []) (ZY 1 []) []),(3, .map 1 (yP [(.int .i64 1)]) (KC u0) [29]),(6, .map 2 (yP KM) (Kz u0) [29,27]),(9, .map 3 (yP Kg) (K5 u0) [29,27,25]),(13, .look true (ZF u0))],fr:=[(0,36)] } [] ⟨(⟨(fun i hi=>absurd hi (Nat.not_lt_zero i)),(by intro i hi j hj;match i,j,hi,hj with|0,0,_,_=>exact cK.1 (show iy (CV.dz (.own 29 false u0.badBus.length)) [29]=true from by kernel_rfl)),0,(fun i hi=>absurd hi (Nat.not_lt_zero i)), .inr ⟨rfl,rfl⟩,rfl,rfl,(fun i hi=>absurd hi (Nat.not_lt_zero i))⟩),(⟨(by intro i hi;match i,hi with|0,_=>rfl),(by intro i hi j hj;match i,j,hi,hj with|0,0,_,_=>exact cK.1 (show iy (CV.dz (.own 29 false u0.badBus.length)) [29,27]=true from by kernel_rfl)|1,0,_,_=>exact cK.1 (show iy (CV.dz (.own 27 false u0.badSource.length)) [29,27]=true from by kernel_rfl)),1,(by intro i hi;match i,hi with|0,_=>rfl), .inr ⟨rfl,rfl⟩,rfl,rfl,(by intro i hi;match i,hi with|0,_=>exact fun _=> ⟨rfl,rfl⟩)⟩),(⟨(by intro i hi;match i,hi with|0,_=>rfl|1,_=>rfl),(by intro i hi j hj;match i,j,hi,hj with|0,0,_,_=>exact cK.1 (show iy (CV.dz (.own 29 false u0.badBus.length)) [29,27,25]=true from by kernel_rfl)|1,0,_,_=>exact cK.1 (show iy (CV.dz (.own 27 false u0.badSource.length)) [29,27,25]=true from by kernel_rfl)|2,0,_,_=>exact cK.1 (show iy (CV.dz (.own 25 false u0.badLink.length)) [29,27,25]=true from by kernel_rfl)),2,(by intro i hi;match i,hi with|0,_=>rfl|1,_=>rfl), .inr ⟨rfl,rfl⟩,rfl,rfl,(by intro i hi;match i,hi with|0,_=>exact fun _=> ⟨rfl,rfl⟩|1,_=>exact fun _=> ⟨rfl,rfl⟩)⟩),(⟨(by intro i hi;match i,hi with|0,_=>rfl|1,_=>rfl|2,_=>rfl), .inl ⟨rfl,2,by decide,congrArg some hb4,(by intro i hi;match i,hi with|0,_=>exact congrArg some hb|1,_=>exact congrArg some hb2),rfl⟩⟩),trivial⟩ ?_
     refine aQ (aQ (bE h fun u3 hr_4 h=> ?_))
     have q0:=aV x.index 0 (IntKind.wrap .i64 ((u0.badLink.length:Int) - 1)) hr_4
     refine rg tT ⟨[(3,(vB is)),(5,(vP 20 0)),(6,(vP 21 0)),(8,(vP 22 0)),(11,(vO 25 false u0.badLink.length)),(38,(vB (!u3)))],(Qh x u0)⟩ [_] {an:=[(5,cA q0 [])] } [] ⟨q0,trivial⟩ ?_
     refine bI h (fun hb5 h=> ?_) (fun hb5 h=> ?_)
     ·refine ct hb5 ?_
      refine sz tT aem {} [22] ?_
      refine aI (bJ.le (st':=acR) ⟨⟨⟨_,rfl,fe.v (jB.one (bH.d (Li ⟨dR.nil',dR.nil',dR.nil',dR.nil',dR.nil',dR.nil',dR.nil',trivial⟩)))⟩,tR,trivial⟩,trivial⟩) ?_
      refine aR ?_
      obtain rfl:=oi h
      exact rl adL
     ·refine cf hb5 ?_
      refine aP (aQ (aO h fun a1 h=> ?_))
      refine ri tT ⟨ZC,[(adg u0),Nh,(Ve u0),(Wt u0),(25,some (.arr 4 1 u0.badLink.length (au af (Rb x u0 is)))),(WZ u0),(Z9 u0),(VI u0),(abj u0)]⟩ [_,_,aT u0.badLink.length 1 (lH (au af u0.badLink) x.index.toNat 0 [(.bool is)]) (au af (Rb x u0 is))] {an:=[(5, .arr 0 (au af (Rb x u0 is)))] } [] ⟨a1,(tL a1),(dD _ _ _ _ _ _ _ _ rfl (fun j hj=>(match j,hj with|0,_=>rfl))),trivial⟩ (bJ.le (st':=⟨ZC,[(20,some (.cells 29 [(.own 23 false u0.closed.length),(.own 24 false u0.locked.length),(.own 25 false ((Rb x u0 is).length)),(.own 26 false u0.on_.length),(.own 27 false u0.badSource.length),(.own 28 false u0.earthed.length),(.own 29 false u0.badBus.length)])),Nh,(Ve u0),(Wt u0),(25,some (aF 4 1 af (Rb x u0 is))),(WZ u0),(Z9 u0),(VI u0),(abj u0)]⟩) ⟨⟨tR,tR,trivial⟩,⟨rfl,fG ⟨bH.refl _,bH.refl _,cW,bH.refl _,bH.refl _,bH.refl _,bH.refl _,trivial⟩,(hN 3 ⟨rfl,oW,(.refl _)⟩)⟩⟩) ?_
      refine si tT ⟨[(8,(vP 22 0)),(9,(vI 0))],[(22,some (.cells 29 (ak3 x u0 is)))]⟩ [u0.closed.length=u0.closed.length,u0.locked.length=u0.locked.length,(Rb x u0 is).length=(Rb x u0 is).length,u0.on_.length=u0.on_.length,u0.badSource.length=u0.badSource.length,u0.earthed.length=u0.earthed.length,u0.badBus.length=u0.badBus.length] {} [23,24,25,26,27,28,29] ⟨rfl,rfl,rfl,rfl,rfl,rfl,rfl,trivial⟩ (fz ⟨[(8,(vD (oL [(QK u0),(KF u0),(aD none 1 af (Rb x u0 is)),(Ht u0),(Jy u0),(EW u0),(Ga u0)] 0))),(9,(vI 0))],[]⟩ [22]) ?_
      refine aR ?_
      obtain rfl:=oi h
      exact rl [(.agg (ak3 x u0 is)),(sI 0)]
    ·skip
     refine rg tT ⟨[(3,(vB is)),(5,(vP 20 0)),(6,(vP 21 0)),(8,(vP 22 0)),(11,(vD nS))],(Qh x u0)⟩ [uL [some .i64] 1 1 0 (yP []) (ZY 1 []) [(.int .i64 1)] (WK u0) [29] 1 (yP [(.int .i64 1)]) (KC u0),uL [some .i64] 1 1 1 (yP [(.int .i64 1)]) (KC u0) [(.int .i64 2)] (Yk u0) [29,27] 2 (yP KM) (Kz u0),uL [some .i64] 1 1 2 (yP KM) (Kz u0) [(.int .i64 3)] (ZF u0) [29,27,25] 3 (yP Kg) (K5 u0),tV [some .i64] 1 1 3 (yP Kg) (K5 u0) [(.int .i64 x.kind)] [(.d nS)] false [(.d nS)]] {an:=[(0, .map 0 (yP []) (ZY 1 []) []),(3, .map 1 (yP [(.int .i64 1)]) (KC u0) [29]),(6, .map 2 (yP KM) (Kz u0) [29,27]),(9, .map 3 (yP Kg) (K5 u0) [29,27,25]),(13, .look false [(.d nS)])],fr:=[(0,37)] } [] ⟨(⟨(fun i hi=>absurd hi (Nat.not_lt_zero i)),(by intro i hi j hj;match i,j,hi,hj with|0,0,_,_=>exact cK.1 (show iy (CV.dz (.own 29 false u0.badBus.length)) [29]=true from by kernel_rfl)),0,(fun i hi=>absurd hi (Nat.not_lt_zero i)), .inr ⟨rfl,rfl⟩,rfl,rfl,(fun i hi=>absurd hi (Nat.not_lt_zero i))⟩),(⟨(by intro i hi;match i,hi with|0,_=>rfl),(by intro i hi j hj;match i,j,hi,hj with|0,0,_,_=>exact cK.1 (show iy (CV.dz (.own 29 false u0.badBus.length)) [29,27]=true from by kernel_rfl)|1,0,_,_=>exact cK.1 (show iy (CV.dz (.own 27 false u0.badSource.length)) [29,27]=true from by kernel_rfl)),1,(by intro i hi;match i,hi with|0,_=>rfl), .inr ⟨rfl,rfl⟩,rfl,rfl,(by intro i hi;match i,hi with|0,_=>exact fun _=> ⟨rfl,rfl⟩)⟩),(⟨(by intro i hi;match i,hi with|0,_=>rfl|1,_=>rfl),(by intro i hi j hj;match i,j,hi,hj with|0,0,_,_=>exact cK.1 (show iy (CV.dz (.own 29 false u0.badBus.length)) [29,27,25]=true from by kernel_rfl)|1,0,_,_=>exact cK.1 (show iy (CV.dz (.own 27 false u0.badSource.length)) [29,27,25]=true from by kernel_rfl)|2,0,_,_=>exact cK.1 (show iy (CV.dz (.own 25 false u0.badLink.length)) [29,27,25]=true from by kernel_rfl)),2,(by intro i hi;match i,hi with|0,_=>rfl|1,_=>rfl), .inr ⟨rfl,rfl⟩,rfl,rfl,(by intro i hi;match i,hi with|0,_=>exact fun _=> ⟨rfl,rfl⟩|1,_=>exact fun _=> ⟨rfl,rfl⟩)⟩),(⟨(by intro i hi;match i,hi with|0,_=>rfl|1,_=>rfl|2,_=>rfl), .inr ⟨rfl,(by intro i hi;match i,hi with|0,_=>exact congrArg some hb|1,_=>exact congrArg some hb2|2,_=>exact congrArg some hb4),rfl⟩⟩),trivial⟩ ?_
     refine aQ (aQ (bE h fun u4 hr_5 h=> ?_))
     have q0:=aV x.index 0 (-1) hr_5
     refine rg tT ⟨[(3,(vB is)),(5,(vP 20 0)),(6,(vP 21 0)),(8,(vP 22 0)),(11,(vD nS)),(38,(vB (!u4)))],(Qh x u0)⟩ [_] {an:=[(5,cA q0 [])] } [] ⟨q0,trivial⟩ ?_
     refine bI h (fun hb6 h=> ?_) (fun hb6 h=> ?_)
     ·refine ct hb6 ?_
      refine sz tT aem {} [22] ?_
      refine aI (bJ.le (st':=acR) ⟨⟨⟨_,rfl,fe.v (jB.one (bH.d (Li ⟨dR.nil',dR.nil',dR.nil',dR.nil',dR.nil',dR.nil',dR.nil',trivial⟩)))⟩,tR,trivial⟩,trivial⟩) ?_
      refine aR ?_
      obtain rfl:=oi h
      exact rl adL
     ·refine cf hb6 ?_
      refine aP (aQ ?_)
      cases h
def Ky  :(State × Int)→Exit→St→Prop:=
  fun r=>aW TT [.cell 6 29, .tmp 7] (.iB [(.agg [(.d (aD none 1 af r.1.closed)),(.d (aD none 1 af r.1.locked)),(.d (aD none 1 af r.1.badLink)),(.d (aD none 1 af r.1.on_)),(.d (aD none 1 af r.1.badSource)),(.d (aD none 1 af r.1.earthed)),(.d (aD none 1 af r.1.badBus))]),(sI r.2)]) []
section
variable (r_:(State × Int))
abbrev ald:TV:=(vD (oL [(aD none 1 af r_.1.closed),(aD none 1 af r_.1.locked),(aD none 1 af r_.1.badLink),(aD none 1 af r_.1.on_),(aD none 1 af r_.1.badSource),(aD none 1 af r_.1.earthed),(aD none 1 af r_.1.badBus)] 0))
end
theorem Jg (p:ah) (s_:State) (x:Part) {r:(State × Int)} (h:qb p s_ x=some r):Fn Tryz.prog 45 [(.agg (k3 p)),(.agg (Rx s_)),(.agg [(cI x.kind),(cI x.index)])] [] (.iB [(.agg [(.d (aD none 1 af r.1.closed)),(.d (aD none 1 af r.1.locked)),(.d (aD none 1 af r.1.badLink)),(.d (aD none 1 af r.1.on_)),(.d (aD none 1 af r.1.badSource)),(.d (aD none 1 af r.1.earthed)),(.d (aD none 1 af r.1.badBus))]),(sI r.2)]) []:=by
 refine fN tT Tryz.func45 rfl rfl fun B=> ?_
 show bG _ _ _ _ _ _ (Ky r) _
 unfold qb at h
 refine sz tT ⟨[(bB p),(fH s_),(5,(vD (oL [(.int .i64 x.kind),(.int .i64 x.index)] 0))),(6,(vP 7 0))],[(7,some ac1)]⟩ {fr:=[(0,4),(1,5),(2,6),(3,7)] } [4,5,6] ?_
 refine aQ (bE h fun r_ hr_ h=> ?_)
 have q0:=IQ p s_ x true hr_
 refine rg tT ⟨[(6,(ald r_)),(7,(vI r_.2))],[]⟩ [_] {an:=[(3,cA q0 [])] } [7] ⟨q0,trivial⟩ ?_
 refine aR ?_
 obtain rfl:=oi h
 exact rl [(.agg [(.d (aD none 1 af r_.1.closed)),(.d (aD none 1 af r_.1.locked)),(.d (aD none 1 af r_.1.badLink)),(.d (aD none 1 af r_.1.on_)),(.d (aD none 1 af r_.1.badSource)),(.d (aD none 1 af r_.1.earthed)),(.d (aD none 1 af r_.1.badBus))]),(sI r_.2)]
def Eh  :(Int × (List Source) × (List Link) × (List aJ) × (List Bool) × (List Bool) × (List Bool) × (List Bool) × (List Bool) × (List Bool) × (List Bool))→Exit→St→Prop:=
  fun r=>aW TT [.tmp 4] (vD (.fn 152 2 (wQ [(oL [(.int .i64 r.1),(aD none 5 Source.cell r.2.1),(aD none 6 Link.cell r.2.2.1),(aD none 4 aJ.cell r.2.2.2.1)] 0),(oL [(aD none 1 af r.2.2.2.2.1),(aD none 1 af r.2.2.2.2.2.1),(aD none 1 af r.2.2.2.2.2.2.1),(aD none 1 af r.2.2.2.2.2.2.2.1),(aD none 1 af r.2.2.2.2.2.2.2.2.1),(aD none 1 af r.2.2.2.2.2.2.2.2.2.1),(aD none 1 af r.2.2.2.2.2.2.2.2.2.2)] 0)]))) []
section
variable (p:ah) (s_:State)
abbrev ZX:St:=⟨[(k7 p),(dS s_)],[]⟩
abbrev aky:=(wQ [(k9 p),(amU s_)])
end
theorem CR (p:ah) (s_:State) {r:(Int × (List Source) × (List Link) × (List aJ) × (List Bool) × (List Bool) × (List Bool) × (List Bool) × (List Bool) × (List Bool) × (List Bool))} (h:mh p s_=some r):Fn Tryz.prog 142 (Oc s_ p) [] (vD (.fn 152 2 (wQ [(oL [(.int .i64 r.1),(aD none 5 Source.cell r.2.1),(aD none 6 Link.cell r.2.2.1),(aD none 4 aJ.cell r.2.2.2.1)] 0),(oL [(aD none 1 af r.2.2.2.2.1),(aD none 1 af r.2.2.2.2.2.1),(aD none 1 af r.2.2.2.2.2.2.1),(aD none 1 af r.2.2.2.2.2.2.2.1),(aD none 1 af r.2.2.2.2.2.2.2.2.1),(aD none 1 af r.2.2.2.2.2.2.2.2.2.1),(aD none 1 af r.2.2.2.2.2.2.2.2.2.2)] 0)]))) []:=by
 refine fN tT Tryz.func142 rfl rfl fun B=> ?_
 show bG _ _ _ _ _ _ (Eh r) _
 unfold mh at h
 refine sz tT (ZX p s_) {fr:=[(0,2),(1,3)] } [2,3] ?_
 refine sz tT ⟨[(4,(vD (.fn 152 2 (aky p s_))))],[]⟩ {} [] ?_
 refine aR ?_
 obtain rfl:=oi h
 exact rl [(sD (.fn 152 2 (aky p s_)))]
noncomputable def eH:rX:=⟨[22],Om ([1,1,0,1,0]++[0]) (vM Tryz.f118),Om ([1,1,0,1,0]++[1]) (vM Tryz.f118),125,[]⟩
section
variable (g:aH)
abbrev aaN:Ob:=(Px 3 3 false false 1 1 (aC .i64) (aC .i64) g.head)
abbrev Yw:List (Nat × Option Ob):=[(0,some (aaN g))]
end
def mq (g:aH):Int→Exit→St→Prop:=
  fun r=>aW TT [.tmp 4] (vI r) (Yw g)
section
variable (g:aH) (x1:Int)
abbrev YE:List (Nat × Option Ob):=[(0,some (aaN g)),(2,some (.cells 236 [(.mp 0)]))]
abbrev aii:St:=⟨[(1,(vI x1)),(2,(vP 2 0))],(YE g)⟩
end
def qN (g:aH):Int→St:=
  fun x1=>(aii g x1)
def qH  :Unit→St:=
  fun _=> ⟨[],[]⟩
def Av (g:aH):(aM Int (Ex Unit Int))→Exit→St→Prop:=
  LQ 0 [] (qN g) qH (mq g)
theorem iX (g:aH) (x:Int) {r:Int} (h:cu g x=some r):Fn Tryz.prog 144 [(.agg [(.mp 0)]),(sI x)] (Yw g) (vI r) (Yw g):=by
 refine fN tT Tryz.func144 rfl rfl fun B=> ?_
 show bG _ _ _ _ _ _ ((mq g) r) _
 unfold cu at h
 refine sz tT (aii g x) {fr:=[(0,2)] } [] ?_
 refine bE h fun y hy h=> ?_
 refine aL [] (qN g) qH (mq g) hy (fun s f h=> ?_) ?_
 ·clear hy
  show bG _ _ _ _ _ _ ((Av g) f) _
  unfold eB at h
  obtain⟨x1,rfl⟩: ∃q,q=s:=⟨_,rfl⟩
  refine aB (sg tT ⟨[(1,(vI x1)),(2,(vP 2 0)),(5,(vI ((bQ gI x1 g.head).getD 0))),(6,(vB ((bQ gI x1 g.head).isSome)))],(YE g)⟩ [tV [some .i64] 1 1 g.head.length (Gb (aC .i64) g.head) (IB (aC .i64) g.head) [(.int .i64 x1)] [(.d (.int .i64 0))] (bQ gI x1 g.head).isSome [(cI ((bQ gI x1 g.head).getD 0))]] {an:=[(3, .look (bQ gI x1 g.head).isSome [(cI ((bQ gI x1 g.head).getD 0))])] } [] ⟨(um (fun _=>rfl) (fun _ _=>rfl) g.head x1 0 rfl rfl rfl),trivial⟩ ?_)
  refine aQ (sz tT ⟨[(1,(vI x1)),(2,(vP 2 0)),(5,(vI ((bQ gI x1 g.head).getD 0))),(15,(vB (!((bQ gI x1 g.head).isSome))))],(YE g)⟩ {} [] ?_)
  refine bI h (fun hb h=> ?_) (fun hb h=> ?_)
  ·refine ct hb ?_
   refine sz tT ⟨[(4,(vI x1))],(Yw g)⟩ {} [] ?_
   refine aR ?_
   obtain rfl:=oi h
   exact lR bY (dm 0) bZ (aW.mk (.inr rfl) (p:=[]) (l:=[(sI x1)]) (by kernel_rfl) trivial (fe.refl _) (.refl _))
  ·refine cf hb ?_
   refine aP (rz tT ⟨[(1,(vI ((bQ gI x1 g.head).getD 0))),(2,(vP 2 0))],(YE g)⟩ {} [] ?_)
   obtain rfl:=oi h
   exact lN
 ·clear hy
  cases y with
  |brk z=>exact absurd h (by simp)
  |ret v=>
   obtain rfl:=oi h
   unfold fE
   intro e st hn ha hR
   cases e with
   |normal=>exact absurd rfl hn
   |exit id=>exact hR
   |goto l=>exact hR
   |ret=>exact hR
   |panic c=>exact hR
   |outgrown=>exact hR
def Dh  :(List (Int × Int))→Exit→St→Prop:=
  fun r=>aW TT [] (.iB []) [(0,some (Px 3 3 false false 1 1 (aC .i64) (aC .i64) r))]
section
variable (a:Int) (b:Int) (g:aH)
abbrev ah6:St:=⟨[(1,(vI a)),(2,(vI b)),(3,(vP 2 0))],(YE g)⟩
end
theorem BM (g:aH) (a:Int) (b:Int) {r:(List (Int × Int))} (h:jw g a b=some r):Fn Tryz.prog 143 [(.agg [(.mp 0)]),(sI a),(sI b)] (Yw g) (.iB []) [(0,some (Px 3 3 false false 1 1 (aC .i64) (aC .i64) r))]:=by
 refine fN tT Tryz.func143 rfl rfl fun B=> ?_
 show bG _ _ _ _ _ _ (Dh r) _
 unfold jw at h
 refine sz tT (ah6 a b g) {fr:=[(0,2)] } [] ?_
 refine aQ (bE h fun r_ hr_ h=> ?_)
 refine bE h fun u0 hr_1 h=> ?_
 have q0:=iX g a hr_
 have q1:=iX g b hr_1
 refine dg tT mX (ah6 r_ u0 g) [_,_] {an:=[(2,cR q0 [0]),(5,cR q1 [0])] } [] ⟨q0,q1,trivial⟩ ?_
 refine sz tT ⟨[(1,(vI r_)),(2,(vI u0)),(3,(vP 2 0)),(14,(vB (!decide (r_=u0))))],(YE g)⟩ {} [] ?_
 refine bI h (fun hb h=> ?_) (fun hb h=> ?_)
 ·refine ct hb ?_
  refine rg tT ⟨[],[(0,some (Px 3 3 false false 1 1 (aC .i64) (aC .i64) (jH gI r_ u0 g.head)))]⟩ [uL [some .i64] 1 1 g.head.length (Gb (aC .i64) g.head) (IB (aC .i64) g.head) [(.int .i64 r_)] [(cI u0)] [] (jH gI r_ u0 g.head).length (Gb (aC .i64) (jH gI r_ u0 g.head)) (IB (aC .i64) (jH gI r_ u0 g.head))] {an:=[(4, .map (jH gI r_ u0 g.head).length (Gb (aC .i64) (jH gI r_ u0 g.head)) (IB (aC .i64) (jH gI r_ u0 g.head)) [])] } [] ⟨(NN (fun _=>rfl) (fun _ _=>rfl) g.head r_ u0 rfl rfl),trivial⟩ ?_
  obtain rfl:=oi h
  exact aW.mk (.inl rfl) (p:=[]) (l:=[]) (by kernel_rfl) trivial (fe.refl _) (.refl _)
 ·refine cf hb ?_
  refine aI (fz ⟨[],(Yw g)⟩ []) ?_
  refine aP ?_
  obtain rfl:=oi h
  exact aW.mk (.inl rfl) (p:=[]) (l:=[]) (by kernel_rfl) trivial (fe.refl _) (.refl _)
abbrev WO:Nat × Option Ob:=(0,some (.loop eH 0 [(5,(vP 1 0))]))
abbrev QZ:Nat × Option Ob:=(1,some (.cells 236 [(.mp 2)]))
def BL  :aH→Exit→St→Prop:=
  fun r=>uw 0 eH (vB true) [WO,QZ,(2,some (Px 3 3 false false 1 1 (aC .i64) (aC .i64) r.head))]
section
variable (u5:(List bP)) (o_:aH) (u0:Int) (u1:Int) (u2:Int) (u3:Int) (u4:Int)
abbrev LF:DV:=(aD none 2 bP.cell u5)
abbrev Km:List (Nat × Option Ob):=[WO,QZ,(2,some (aaN o_))]
abbrev af4:List (Nat × TV):=[(5,(vP 1 0)),(6,(vD (oL [(.int .i64 u0),(.int .i64 u1),(.int .i64 u2),(.int .i64 u3),(.int .i64 u4),(LF u5)] 0)))]
end
theorem Az (u0:Int) (u1:Int) (u2:Int) (u3:Int) (u4:Int) (u5:(List bP)) (o_:aH) {r:aH} (h:kL u0 u1 u2 u3 u4 u5 o_=some r):Yl Tryz.prog 0 [(.agg [(cI u0),(cI u1),(cI u2),(cI u3),(cI u4),(.d (LF u5))])] (Km o_) (vB true) [WO,QZ,(2,some (Px 3 3 false false 1 1 (aC .i64) (aC .i64) r.head))]:=by
 refine MJ (r:=eH) (sl:=[(5,(vP 1 0))]) (sl1:=(af4 u5 u0 u1 u2 u3 u4)) (h1:=(Km o_)) (sl2:=[(5,(vP 1 0))]) (by kernel_rfl) rfl rfl (by kernel_rfl) (fun rd B=> ?_) (by kernel_rfl) (fun rd B=> ?_)
 ·refine Ab (c:=Om ([1,1,0,1,0]++[0]) (vM Tryz.f118)) rfl ?_
  refine wU (st:=⟨[(22,(.v (.agg [(cI u0),(cI u1),(cI u2),(cI u3),(cI u4),(.d (LF u5))]))),(5,(vP 1 0))],(Km o_)⟩) (by kernel_rfl) ?_
  refine rz tT ⟨(af4 u5 u0 u1 u2 u3 u4),(Km o_)⟩ {fr:=[(0,4)] } [4] ?_
  exact⟨rfl,rfl⟩
 ·refine Ab (c:=Om ([1,1,0,1,0]++[1]) (vM Tryz.f118)) rfl ?_
  refine wU (st:=⟨(af4 u5 u0 u1 u2 u3 u4),[(0,some (.loop eH 1 [(5,(vP 1 0))])),QZ,(2,some (aaN o_))]⟩) (by kernel_rfl) ?_
  show bG _ _ _ _ _ _ (BL r) _
  unfold kL at h
  refine aB (bE h fun r_ hr_ h=> ?_)
  have q0:=rk [(0,2)] (BM o_ u0 u1 hr_)
  refine rg tT ⟨[],[(0,some (.loop eH 1 [(5,(vP 1 0))])),QZ,(2,some (adW r_))]⟩ [_] {an:=[(5,cA q0 [2])] } [] ⟨q0,trivial⟩ ?_
  obtain rfl:=oi h
  exact uw.on (sl:=[(5,(vP 1 0))]) (by kernel_rfl) (Hz (by kernel_rfl)) (fe.refl _)
def mH  :aH→Exit→St→Prop:=
  fun r=>aW TT [] (.iB []) [WO,QZ,(2,some (Px 3 3 false false 1 1 (aC .i64) (aC .i64) r.head))]
section
variable (x2:(List Bool)) (u1:(List Bool)) (u2:(List Bool)) (u3:(List Bool)) (u4:(List Bool)) (u5:(List Bool)) (u6:(List Bool)) (u0:(List Link)) (u7:(List (Int × Int)))
abbrev amC:DV:=(oL [(aD none 1 af x2),(aD none 1 af u1),(aD none 1 af u2),(aD none 1 af u3),(aD none 1 af u4),(aD none 1 af u5),(aD none 1 af u6)] 0)
abbrev Qn:Nat × TV:=(2,(vD (amC x2 u1 u2 u3 u4 u5 u6)))
abbrev QD:Nat × TV:=(7,(vD (k74 u0)))
abbrev Qi:Nat × TV:=(8,(vI (u0.length:Int)))
abbrev U2:List (Nat × Option Ob):=[WO,QZ,(2,some (adW u7))]
end
def qG (u0:(List Link)) (x2:(List Bool)) (u1:(List Bool)) (u2:(List Bool)) (u3:(List Bool)) (u4:(List Bool)) (u5:(List Bool)) (u6:(List Bool)):((List (Int × Int)) × Int)→St:=
  fun zz=>match zz with|(u7,t9)=> ⟨[AO,(Qn x2 u1 u2 u3 u4 u5 u6),(QD u0),(Qi u0),(9,(vI t9))],(U2 u7)⟩
def qB  :(List (Int × Int))→St:=
  fun o501=> ⟨[],[WO,QZ,(2,some (Px 3 3 false false 1 1 (aC .i64) (aC .i64) o501))]⟩
def AQ (u0:(List Link)) (x2:(List Bool)) (u1:(List Bool)) (u2:(List Bool)) (u3:(List Bool)) (u4:(List Bool)) (u5:(List Bool)) (u6:(List Bool)):(aM ((List (Int × Int)) × Int) (Ex (List (Int × Int)) aH))→Exit→St→Prop:=
  LQ 0 [] (qG u0 x2 u1 u2 u3 u4 u5 u6) qB mH
section
variable (x2:(List Bool)) (t9:Int) (u1:(List Bool)) (u2:(List Bool)) (u0:(List Link)) (u3:(List Bool)) (u4:(List Bool)) (u5:(List Bool)) (u6:(List Bool))
abbrev Qw:=(bif (at' x2 t9.toNat)then(!(at' u1 t9.toNat))else false)
abbrev Q0:=(bif (Qw x2 t9 u1)then(!(at' u2 (((at' u0 t9.toNat).a).toNat)))else false)
abbrev KD:=(bif (Q0 x2 t9 u1 u2 u0)then(!(at' u2 (((at' u0 t9.toNat).b).toNat)))else false)
abbrev aar:=(ic [(5,(at' x2 t9.toNat)),(13,(Qw x2 t9 u1)),(22,(Q0 x2 t9 u1 u2 u0)),(31,true)])
abbrev Y6:Nat × TV:=(9,(Am t9))
abbrev ai0:List (Nat × TV):=[AO,(Qn x2 u3 u1 u4 u5 u6 u2),(QD u0),(Qi u0),(Y6 t9)]
abbrev WQ:=(ic [(5,(at' x2 t9.toNat)),(13,(Qw x2 t9 u1)),(22,(Q0 x2 t9 u1 u2 u0)),(31,false)])
end
theorem A8 (x1:Int) (u8:(List Source)) (u0:(List Link)) (u9:(List aJ)) (x2:(List Bool)) (u3:(List Bool)) (u1:(List Bool)) (u4:(List Bool)) (u5:(List Bool)) (u6:(List Bool)) (u2:(List Bool)) (o_:aH) {r:aH} (h:kJ x1 u8 u0 u9 x2 u3 u1 u4 u5 u6 u2 o_=some r):Fn Tryz.prog 152 [(.one (.yl 0)),(sD (k72 u8 u0 u9 x1)),(sD (amC x2 u3 u1 u4 u5 u6 u2))] (Km o_) (.iB []) [WO,QZ,(2,some (Px 3 3 false false 1 1 (aC .i64) (aC .i64) r.head))]:=by
 refine fN tT Tryz.func152 rfl rfl fun B=> ?_
 show bG _ _ _ _ _ _ (mH r) _
 unfold kJ at h
 refine sz tT ⟨[AO,(Qn x2 u3 u1 u4 u5 u6 u2),(QD u0),(Qi u0),(9,(vI 0))],(Km o_)⟩ {} [] ?_
 refine bE h fun y hy h=> ?_
 refine aL [] (qG u0 x2 u3 u1 u4 u5 u6 u2) qB mH hy (fun s f h=> ?_) ?_
 ·clear hy
  show bG _ _ _ _ _ _ ((AQ u0 x2 u3 u1 u4 u5 u6 u2) f) _
  unfold dB at h
  obtain⟨u7,t9⟩:=s
  refine sz tT ⟨[AO,(Qn x2 u3 u1 u4 u5 u6 u2),(QD u0),(Qi u0),(9,(vI t9)),(10,(vB (decide (t9<(u0.length:Int)))))],(U2 u7)⟩ {} [] ?_
  refine aQ ?_
  refine bI h (fun hb2 h=> ?_) (fun hb2 h=> ?_)
  ·refine ct hb2 ?_
   refine aP (aQ (aB (aQ (aO h fun a1 h=> ?_))))
   refine rg tT ⟨[AO,(Qn x2 u3 u1 u4 u5 u6 u2),(4,(vI t9)),(5,(vD (oL [(.int .i64 ((at' u0 t9.toNat).a)),(.int .i64 ((at' u0 t9.toNat).b)),(.int .i64 ((at' u0 t9.toNat).kind)),(.int .i64 ((at' u0 t9.toNat).most)),(.int .i64 ((at' u0 t9.toNat).bK)),(aD none 2 bP.cell ((at' u0 t9.toNat).trip))] 0))),(QD u0),(Qi u0),(9,(vI t9))],(U2 u7)⟩ [_] {fr:=[(3,10)] } [10] ⟨a1,trivial⟩ ?_
   refine aQ ?_
   refine bI h (fun hb h=> ?_) (fun hb h=> ?_)
   ·skip
    refine bE h fun r_ hr_ h=> ?_
    refine aO h fun⟨a1,a2,a3,a4⟩ h=> ?_
    refine ri tT ⟨[AO,(Qn x2 u3 u1 u4 u5 u6 u2),(QD u0),(Qi u0),(9,(vI t9)),(50,(vB (bif (KD x2 t9 u1 u2 u0)then(!true)else false)))],(Km r_)⟩ (_::(eqs (at' x2 t9.toNat) 4 ((gP (aar x2 t9 u1 u2 u0) [(5,true)]→All [(0:Int)≤t9∧t9<(u1.length:Int)])::(eqs (at' x2 t9.toNat) 3 (eqs (Qw x2 t9 u1) 5 ((gP (aar x2 t9 u1 u2 u0) [(13,true)]→All [(0:Int)≤(at' u0 t9.toNat).a∧(at' u0 t9.toNat).a<(u2.length:Int)])::(eqs (Qw x2 t9 u1) 3 (eqs (Q0 x2 t9 u1 u2 u0) 5 ((gP (aar x2 t9 u1 u2 u0) [(22,true)]→All [(0:Int)≤(at' u0 t9.toNat).b∧(at' u0 t9.toNat).b<(u2.length:Int)])::(eqs (Q0 x2 t9 u1 u2 u0) 3 [(KD x2 t9 u1 u2 u0)=true,(KD x2 t9 u1 u2 u0)=true,(KD x2 t9 u1 u2 u0)=true,gP (aar x2 t9 u1 u2 u0) [(31,true)]→All [Yl Tryz.prog 0 [(.agg [(cI ((at' u0 t9.toNat).a)),(cI ((at' u0 t9.toNat).b)),(cI ((at' u0 t9.toNat).kind)),(cI ((at' u0 t9.toNat).most)),(cI ((at' u0 t9.toNat).bK)),(.d (aD none 2 bP.cell ((at' u0 t9.toNat).trip)))])] (U2 u7) (vB true) (Km r_)],gP (aar x2 t9 u1 u2 u0) [(31,true)],(KD x2 t9 u1 u2 u0)=true,(KD x2 t9 u1 u2 u0)=true])))))))))) {yb:=[(5,(at' x2 t9.toNat)),(13,(Qw x2 t9 u1)),(22,(Q0 x2 t9 u1 u2 u0)),(31,true)],an:=[(34, .call [0,1,2] (vB true) (Km r_))] } [] ⟨a1,(ae ⟨(fun hg=> ⟨(a2 (aU hg)),trivial⟩),(ae (ae ⟨(fun hg=> ⟨(a3 (aU hg)),trivial⟩),(ae (ae ⟨(fun hg=> ⟨(a4 (aU hg)),trivial⟩),(ae ⟨(hb),(hb),(hb),(fun hg=> ⟨(Az ((at' u0 t9.toNat).a) ((at' u0 t9.toNat).b) ((at' u0 t9.toNat).kind) ((at' u0 t9.toNat).most) ((at' u0 t9.toNat).bK) ((at' u0 t9.toNat).trip) (⟨u7⟩:aH) hr_),trivial⟩),(⟨rfl,trivial⟩),(hb),(hb),trivial⟩)⟩))⟩))⟩)⟩ (bJ.le (st':=⟨[AO,(Qn x2 u3 u1 u4 u5 u6 u2),(QD u0),(Qi u0),(9,(vI t9)),(50,(vB (!true)))],(Km r_)⟩) ⟨⟨tR,tR,tR,tR,tR,⟨_,rfl,fe.v (jB.one (bH.of (congrArg (fun b=>CV.d (.bool b)) (aaO hb))))⟩,trivial⟩,(.refl _)⟩) ?_
    refine bI h (fun hb1 h=> ?_) (fun hb1 h=> ?_)
    ·refine ct hb1 ?_
     refine aI (fz ⟨[],(Km r_)⟩ []) ?_
     refine aR ?_
     obtain rfl:=oi h
     exact lR bY (dm 0) bZ (aW.mk (.inr rfl) (p:=[]) (l:=[]) (by kernel_rfl) trivial (fe.refl _) (.refl _))
    ·refine cf hb1 ?_
     refine aP (rz tT ⟨(ai0 x2 t9 u1 u2 u0 u3 u4 u5 u6),(Km r_)⟩ {} [] ?_)
     obtain rfl:=oi h
     exact lN
   ·skip
    refine aO h fun⟨a1,a2,a3,a4⟩ h=> ?_
    refine ri tT ⟨[AO,(Qn x2 u3 u1 u4 u5 u6 u2),(QD u0),(Qi u0),(9,(vI t9)),(50,(vB (bif (KD x2 t9 u1 u2 u0)then false else false)))],(U2 u7)⟩ (_::(eqs (at' x2 t9.toNat) 4 ((gP (WQ x2 t9 u1 u2 u0) [(5,true)]→All [(0:Int)≤t9∧t9<(u1.length:Int)])::(eqs (at' x2 t9.toNat) 3 (eqs (Qw x2 t9 u1) 5 ((gP (WQ x2 t9 u1 u2 u0) [(13,true)]→All [(0:Int)≤(at' u0 t9.toNat).a∧(at' u0 t9.toNat).a<(u2.length:Int)])::(eqs (Qw x2 t9 u1) 3 (eqs (Q0 x2 t9 u1 u2 u0) 5 ((gP (WQ x2 t9 u1 u2 u0) [(22,true)]→All [(0:Int)≤(at' u0 t9.toNat).b∧(at' u0 t9.toNat).b<(u2.length:Int)])::(eqs (Q0 x2 t9 u1 u2 u0) 3 [(KD x2 t9 u1 u2 u0)=false, ¬ gP (WQ x2 t9 u1 u2 u0) [(31,true)],(KD x2 t9 u1 u2 u0)=false, ¬ gP (WQ x2 t9 u1 u2 u0) [(31,true)],(KD x2 t9 u1 u2 u0)=false, ¬ gP (WQ x2 t9 u1 u2 u0) [(31,true)],(KD x2 t9 u1 u2 u0)=false, ¬ gP (WQ x2 t9 u1 u2 u0) [(31,true)],(KD x2 t9 u1 u2 u0)=false])))))))))) {yb:=[(5,(at' x2 t9.toNat)),(13,(Qw x2 t9 u1)),(22,(Q0 x2 t9 u1 u2 u0)),(31,false)],an:=[(32, .skip),(33, .skip),(34, .skip),(35, .skip)] } [] ⟨a1,(ae ⟨(fun hg=> ⟨(a2 (aU hg)),trivial⟩),(ae (ae ⟨(fun hg=> ⟨(a3 (aU hg)),trivial⟩),(ae (ae ⟨(fun hg=> ⟨(a4 (aU hg)),trivial⟩),(ae ⟨(hb),((fun h=>Bool.noConfusion (show false=true from h.1))),(hb),((fun h=>Bool.noConfusion (show false=true from h.1))),(hb),((fun h=>Bool.noConfusion (show false=true from h.1))),(hb),((fun h=>Bool.noConfusion (show false=true from h.1))),(hb),trivial⟩)⟩))⟩))⟩)⟩ (bJ.le (st':=⟨[AO,(Qn x2 u3 u1 u4 u5 u6 u2),(QD u0),(Qi u0),(9,(vI t9)),(50,(vB false))],(U2 u7)⟩) ⟨⟨tR,tR,tR,tR,tR,⟨_,rfl,fe.v (jB.one (bH.of (congrArg (fun b=>CV.d (.bool b)) (acd hb))))⟩,trivial⟩,(.refl _)⟩) ?_
    refine cn (aP (rz tT ⟨(ai0 x2 t9 u1 u2 u0 u3 u4 u5 u6),(U2 u7)⟩ {} [] ?_))
    obtain rfl:=oi h
    exact lN
  ·refine cf hb2 ?_
   refine aI (fz ⟨[],(U2 u7)⟩ []) ?_
   refine aX ?_
   obtain rfl:=oi h
   exact lB
 ·clear hy
  cases y with
  |brk z=>
   obtain⟨o501,rfl⟩: ∃q,q=z:=⟨_,rfl⟩
   unfold fE
   refine⟨_, .refl, ?_⟩
   obtain rfl:=oi h
   exact aW.mk (.inl rfl) (p:=[]) (l:=[]) (by kernel_rfl) trivial (fe.refl _) (.refl _)
  |ret v=>
   obtain rfl:=oi h
   unfold fE
   intro e st hn ha hR
   cases e with
   |normal=>exact absurd rfl hn
   |exit id=>exact hR
   |goto l=>exact hR
   |ret=>exact hR
   |panic c=>exact hR
   |outgrown=>exact hR
def iP  :(List aG)→Exit→St→Prop:=
  fun r=>aW TT [.tmp 4] (vD (aD none 2 aG.cell r)) []
section
variable (u0:(List aG)) (s_:State) (p:ah) (u3:Int) (u1:aH) (u2:(List (Int × Int)))
abbrev CG:Nat × TV:=(7,(vO 60 false u0.length))
abbrev rG:Nat × TV:=(8,(.v (.one (.mp 61))))
abbrev al2:List (Nat × TV):=[(2,(vP 55 0)),(dS s_),(5,(vP 58 0)),(CG u0),rG,(31,(vI p.buses)),(32,(vI u3))]
abbrev Iu:Nat × Option Ob:=(55,some (Xh p))
abbrev EX:Nat × Option Ob:=(57,some (aaN u1))
abbrev CP:Nat × Option Ob:=(58,some (.cells 236 [(.mp 57)]))
abbrev abb:Nat × Option Ob:=(60,some (.rows 211 2 u0.length (BF aG.ev u0) none))
abbrev XK:Nat × Option Ob:=(61,some (adW u2))
abbrev Oz:List (Nat × Option Ob):=[(Iu p),(EX u1),CP,(abb u0),(XK u2)]
end
def sP (p:ah) (s_:State) (u1:aH):((List aG) × (List (Int × Int)) × Int)→St:=
  fun zz=>match zz with|(u0,u2,u3)=> ⟨(al2 u0 s_ p u3),(Oz u0 p u1 u2)⟩
section
variable (s_:State) (u0:(List aG)) (p:ah) (u1:aH) (u2:(List (Int × Int)))
abbrev ajJ:St:=⟨[(2,(vP 55 0)),(dS s_),(5,(vP 58 0)),(CG u0),rG],(Oz u0 p u1 u2)⟩
end
def sW (p:ah) (s_:State) (u1:aH):((List aG) × (List (Int × Int)))→St:=
  fun zz=>match zz with|(u0,u2)=>(ajJ s_ u0 p u1 u2)
def Di (p:ah) (s_:State) (u0:aH):(aM ((List aG) × (List (Int × Int)) × Int) (Ex ((List aG) × (List (Int × Int))) (List aG)))→Exit→St→Prop:=
  LQ 2 [] (sP p s_ u0) (sW p s_ u0) iP
section
variable (p:ah) (s_:State) (u0:(List aG)) (u3:Int) (u1:aH) (u2:(List (Int × Int)))
abbrev Qs:Nat × TV:=(76,(vD (k4 p)))
abbrev Qp:Nat × TV:=(77,(vI (p.sources.length:Int)))
abbrev ang:List (Nat × TV):=[(dS s_),(5,(vP 58 0)),(CG u0),rG,(Qs p),(Qp p),(78,(vI u3))]
abbrev WC:List (Nat × Option Ob):=[(EX u1),CP,(abb u0),(XK u2)]
end
def tq (p:ah) (s_:State) (u1:aH) (u2:(List (Int × Int))):((List aG) × Int)→St:=
  fun zz=>match zz with|(u0,u3)=> ⟨(ang p s_ u0 u3),(WC u0 u1 u2)⟩
section
variable (u0:(List aG))
abbrev akD:St:=⟨[(CG u0)],[(abb u0)]⟩
end
def sZ  :(List aG)→St:=
  fun u0=>(akD u0)
def Df (p:ah) (s_:State) (u0:aH) (u1:(List (Int × Int))):(aM ((List aG) × Int) (Ex (List aG) (List aG)))→Exit→St→Prop:=
  LQ 4 [] (tq p s_ u0 u1) sZ iP
section
variable (p:ah) (r_:(Int × (List Source) × (List Link) × (List aJ) × (List Bool) × (List Bool) × (List Bool) × (List Bool) × (List Bool) × (List Bool) × (List Bool))) (s_:State) (u8:aH) (u3:Int) (u0:(List aG)) (u1:Int) (u2:(List (Int × Int))) (u5:Int) (u6:(List aG)) (u7:Int) (u4:(List (Int × Int)))
abbrev alR:Nat × Option Ob:=(57,some agE)
abbrev alu:List (Nat × Option Ob):=[(Iu p),alR,CP]
abbrev agv:DV:=(oL [(.int .i64 r_.1),(aD none 5 Source.cell r_.2.1),(aD none 6 Link.cell r_.2.2.1),(aD none 4 aJ.cell r_.2.2.2.1)] 0)
abbrev ahD:DV:=(oL [(aD none 1 af r_.2.2.2.2.1),(aD none 1 af r_.2.2.2.2.2.1),(aD none 1 af r_.2.2.2.2.2.2.1),(aD none 1 af r_.2.2.2.2.2.2.2.1),(aD none 1 af r_.2.2.2.2.2.2.2.2.1),(aD none 1 af r_.2.2.2.2.2.2.2.2.2.1),(aD none 1 af r_.2.2.2.2.2.2.2.2.2.2)] 0)
abbrev ajh:TV:=(vD (.fn 152 2 (wQ [(agv r_),(ahD r_)])))
abbrev alG:List (Nat × TV):=[(2,(vP 55 0)),(dS s_),(5,(vP 58 0)),(21,(ajh r_))]
abbrev amf:List (Nat × Option Ob):=[(Iu p),(EX u8),CP]
abbrev akM:Nat × Option Ob:=(60,some (.rows 211 2 ([]:List aG).length (BF aG.ev ([]:List aG)) none))
abbrev ajy:List (Nat × Option Ob):=[(Iu p),(EX u8),CP,akM,(61,some agE)]
abbrev aay:Nat × TV:=(32,(Am u3))
abbrev am1:List (Nat × TV):=[(2,(vP 55 0)),(dS s_),(5,(vP 58 0)),(CG u0),rG,(9,(vI u3)),(10,(vI u1)),(31,(vI p.buses)),(32,(vI u3))]
abbrev uF:=((bQ gI u1 u2).getD 0)
abbrev ZG:List CV:=[(cI (uF u1 u2))]
abbrev Ik:=(jH gI u1 (u0.length:Int) u2)
abbrev abk:Nat × Option Ob:=(61,some (Px 3 3 false false 1 1 (aC .i64) (aC .i64) (Ik u0 u1 u2)))
abbrev JE:=(u0++[(⟨([]:List Int),([]:List Int)⟩:aG)])
abbrev afY:Nat × TV:=(7,(vO 87 false ((JE u0).length)))
abbrev adB:=(BF aG.ev (JE u0))
abbrev aiO:List (Nat × Option Ob):=[(Iu p),(EX u8),CP,(abk u0 u1 u2),(87,some (.rows 211 2 (JE u0).length (adB u0) none))]
abbrev KU:=((bQ gI u1 (Ik u0 u1 u2)).getD 0)
abbrev ag8:=((KU u0 u1 u2).toNat)
abbrev akk:=(at' (JE u0) (ag8 u0 u1 u2))
abbrev Q8:=((akk u0 u1 u2).buses)
abbrev WH:=((Q8 u0 u1 u2)++[u3])
abbrev aeG:=((JE u0).set (ag8 u0 u1 u2) (⟨(WH u3 u0 u1 u2),(akk u0 u1 u2).sources⟩:aG))
abbrev aak:=(BF aG.ev (aeG u3 u0 u1 u2))
abbrev al4:=((Q8 u0 u1 u2).length+[u3].length)
abbrev ahd:=(au (aC .i64) (WH u3 u0 u1 u2))
abbrev aj0:=((aeG u3 u0 u1 u2).length)
abbrev akF:Nat × TV:=(7,(vO 87 false (aj0 u3 u0 u1 u2)))
abbrev aku:List (Nat × Option Ob):=[(Iu p),(EX u8),CP,(abk u0 u1 u2),(87,some (.rows 211 2 (aeG u3 u0 u1 u2).length (aak u3 u0 u1 u2) none))]
abbrev N8:=((at' u0 ((uF u1 u2).toNat)).buses)
abbrev VA:=((N8 u0 u1 u2)++[u3])
abbrev ahK:=(u0.set ((uF u1 u2).toNat) (⟨(VA u3 u0 u1 u2),(at' u0 ((uF u1 u2).toNat)).sources⟩:aG))
abbrev aev:=(BF aG.ev (ahK u3 u0 u1 u2))
abbrev af8:=(au (aC .i64) (VA u3 u0 u1 u2))
abbrev alU:Nat × TV:=(7,(vO 60 false ((ahK u3 u0 u1 u2).length)))
abbrev aik:List (Nat × Option Ob):=[(Iu p),(EX u8),CP,(60,some (.rows 211 2 (ahK u3 u0 u1 u2).length (aev u3 u0 u1 u2) none)),(XK u2)]
abbrev ai8:Nat × TV:=(15,(k38 p u5))
abbrev Oe:=((at' u6 ((uF u7 u4).toNat)).sources)
abbrev Vm:=((Oe u6 u7 u4)++[u5])
abbrev ag7:=(u6.set ((uF u7 u4).toNat) (⟨(at' u6 ((uF u7 u4).toNat)).buses,(Vm u5 u6 u7 u4)⟩:aG))
abbrev adu:=(BF aG.ev (ag7 u5 u6 u7 u4))
abbrev ahE:=(au (aC .i64) (Vm u5 u6 u7 u4))
abbrev anc:Nat × TV:=(7,(vO 60 false ((ag7 u5 u6 u7 u4).length)))
abbrev akQ:List (Nat × Option Ob):=[(EX u8),CP,(60,some (.rows 211 2 (ag7 u5 u6 u7 u4).length (adu u5 u6 u7 u4) none)),(XK u4)]
end
theorem Db (p:ah) (s_:State) {r:(List aG)} (h:mY p s_=some r):Fn Tryz.prog 118 (Oc s_ p) [] (vD (aD none 2 aG.cell r)) []:=by
 refine fN tT Tryz.func118 rfl rfl fun B=> ?_
 show bG _ _ _ _ _ _ (iP r) _
 unfold mY at h
 refine sz tT ⟨[(2,(vP 55 0)),(dS s_)],[(Iu p)]⟩ {fr:=[(0,55),(1,56)] } [56] ?_
 refine sz tT ⟨[(2,(vP 55 0)),(dS s_),(5,(vP 58 0))],(alu p)⟩ {an:=[(0, .map 0 (Gb (aC .i64) ([]:(List (Int × Int)))) (IB (aC .i64) ([]:(List (Int × Int)))) [])],fr:=[(0,57),(2,58)] } [] ?_
 refine aQ (aQ (bE h fun r_ hr_ h=> ?_))
 have q0:=CR p s_ hr_
 refine rg tT ⟨(alG r_ s_),(alu p)⟩ [_] {an:=[(2,cA q0 [])] } [] ⟨q0,trivial⟩ ?_
 refine aB (bE h fun u8 hr_1 h=> ?_)
 refine x9 59 [(5,(vP 58 0))] [] [59,58,57] (.iB []) [(59,some (.loop eH 0 [(5,(vP 58 0))])),CP,(EX u8)] (ajh r_) 152 [] [(.d (agv r_)),(.d (ahD r_))] [(59,some (.loop eH 0 [(5,(vP 58 0))])),CP,alR] [(.one (.yl 59)),(sD (agv r_)),(sD (ahD r_))] eH 0 [(5,(vP 58 0))] (by kernel_rfl) (by kernel_rfl) (by kernel_rfl) (by kernel_rfl) (by kernel_rfl) (by kernel_rfl) (by kernel_rfl) (rK [(0,59),(1,58),(2,57)] (A8 r_.1 r_.2.1 r_.2.2.1 r_.2.2.2.1 r_.2.2.2.2.1 r_.2.2.2.2.2.1 r_.2.2.2.2.2.2.1 r_.2.2.2.2.2.2.2.1 r_.2.2.2.2.2.2.2.2.1 r_.2.2.2.2.2.2.2.2.2.1 r_.2.2.2.2.2.2.2.2.2.2 (⟨([]:(List (Int × Int)))⟩:aH) hr_1)) (by kernel_rfl) rfl (Rj.zero rfl) (bJ.fin (st':=⟨(alG r_ s_),(amf p u8)⟩) (cs:=[]) ⟨[],[(55,55),(57,57),(58,58)]⟩ [2,3,5,21] (by kernel_rfl) trivial) ?_
 refine si tT ⟨[(2,(vP 55 0)),(dS s_),(5,(vP 58 0)),(7,(vD nS))],(amf p u8)⟩ [] {} [] trivial (.trans (bJ.ag4 (t:=7) (b:=60) (esz0:=0) (el0:=fun _ _=> .nilp) (E:=211) (esz:=2) (el:=BF aG.ev ([]:List aG)) (ov:=none) (by kernel_rfl) (by kernel_rfl)) (.trans (fz ⟨[(2,(vP 55 0)),(dS s_),(5,(vP 58 0)),(7,(vO 60 false 0))],[(Iu p),(EX u8),CP,(60,some (.rows 211 2 0 (BF aG.ev ([]:List aG)) none))]⟩ []) (bJ.le (st':=⟨[(2,(vP 55 0)),(dS s_),(5,(vP 58 0)),(7,(vO 60 false (([]:List aG).length)))],[(Iu p),(EX u8),CP,akM]⟩) ⟨⟨tR,tR,tR,⟨_,rfl,fe.v (jB.one cW)⟩,trivial⟩,(hN 3 ⟨rfl,IV (by simp only [List.length_set,List.length_append,List.length_cons,List.length_nil,List.length_replicate]),trivial⟩)⟩))) ?_
 refine sz tT ⟨[(2,(vP 55 0)),(dS s_),(5,(vP 58 0)),(7,(vO 60 false (([]:List aG).length))),rG],(ajy p u8)⟩ {an:=[(0, .map 0 (Gb (aC .i64) ([]:(List (Int × Int)))) (IB (aC .i64) ([]:(List (Int × Int)))) [])],fr:=[(0,61)] } [] ?_
 refine aQ (sz tT ⟨[(2,(vP 55 0)),(dS s_),(5,(vP 58 0)),(7,(vO 60 false (([]:List aG).length))),rG,(31,(vI p.buses)),(32,(vI 0))],(ajy p u8)⟩ {} [] ?_)
 refine bE h fun y hy h=> ?_
 refine aL [] (sP p s_ u8) (sW p s_ u8) iP hy (fun s f h=> ?_) ?_
 ·clear hy
  show bG _ _ _ _ _ _ ((Di p s_ u8) f) _
  unfold fV at h
  obtain⟨u0,u2,u3⟩:=s
  refine sz tT ⟨[(2,(vP 55 0)),(dS s_),(5,(vP 58 0)),(CG u0),rG,(31,(vI p.buses)),(32,(vI u3)),(33,(vB (decide (u3<p.buses))))],(Oz u0 p u8 u2)⟩ {} [] ?_
  refine aQ ?_
  refine bI h (fun hb2 h=> ?_) (fun hb2 h=> ?_)
  ·refine ct hb2 ?_
   refine aP (aQ (aB (sz tT ⟨[(2,(vP 55 0)),(dS s_),(5,(vP 58 0)),(CG u0),rG,(9,(vI u3)),(31,(vI p.buses)),(32,(vI u3))],(Oz u0 p u8 u2)⟩ {} [] ?_)))
   refine aQ (aQ (aO h fun a1 h=> ?_))
   refine rg tT ⟨[(2,(vP 55 0)),(dS s_),(5,(vP 58 0)),(CG u0),rG,(9,(vI u3)),(31,(vI p.buses)),(32,(vI u3)),(39,(vB (at' s_.badBus u3.toNat)))],(Oz u0 p u8 u2)⟩ [_] {} [] ⟨a1,trivial⟩ ?_
   refine bI h (fun hb1 h=> ?_) (fun hb1 h=> ?_)
   ·refine ct hb1 ?_
    refine aX (rz tT ⟨[(2,(vP 55 0)),(dS s_),(5,(vP 58 0)),(CG u0),rG,(31,(vI p.buses)),(aay u3)],(Oz u0 p u8 u2)⟩ {} [] ?_)
    obtain rfl:=oi h
    exact lN
   ·refine cf hb1 ?_
    refine aP (aQ (bE h fun u1 hr_2 h=> ?_))
    have q0:=rk [(0,57)] (iX u8 u3 hr_2)
    refine rg tT ⟨(am1 p s_ u3 u0 u1),(Oz u0 p u8 u2)⟩ [_] {an:=[(2,cR q0 [57])] } [] ⟨q0,trivial⟩ ?_
    refine aQ (sg tT ⟨[(2,(vP 55 0)),(dS s_),(5,(vP 58 0)),(CG u0),rG,(9,(vI u3)),(10,(vI u1)),(12,(vB ((bQ gI u1 u2).isSome))),(31,(vI p.buses)),(32,(vI u3))],(Oz u0 p u8 u2)⟩ [tV [some .i64] 1 1 u2.length (Gb (aC .i64) u2) (IB (aC .i64) u2) [(.int .i64 u1)] [(.d (.int .i64 0))] (bQ gI u1 u2).isSome (ZG u1 u2)] {an:=[(2, .look (bQ gI u1 u2).isSome (ZG u1 u2))] } [] ⟨(um (fun _=>rfl) (fun _ _=>rfl) u2 u1 0 rfl rfl rfl),trivial⟩ ?_)
    refine sz tT ⟨[(2,(vP 55 0)),(dS s_),(5,(vP 58 0)),(CG u0),rG,(9,(vI u3)),(10,(vI u1)),(31,(vI p.buses)),(32,(vI u3)),(50,(vB (!((bQ gI u1 u2).isSome))))],(Oz u0 p u8 u2)⟩ {} [] ?_
    refine bI h (fun hb h=> ?_) (fun hb h=> ?_)
    ·refine ct hb ?_
     refine sg tT ⟨(am1 p s_ u3 u0 u1),[(Iu p),(EX u8),CP,(abb u0),(abk u0 u1 u2)]⟩ [uL [some .i64] 1 1 u2.length (Gb (aC .i64) u2) (IB (aC .i64) u2) [(.int .i64 u1)] [(cI (u0.length:Int))] [] (Ik u0 u1 u2).length (Gb (aC .i64) (Ik u0 u1 u2)) (IB (aC .i64) (Ik u0 u1 u2))] {an:=[(4, .map (Ik u0 u1 u2).length (Gb (aC .i64) (Ik u0 u1 u2)) (IB (aC .i64) (Ik u0 u1 u2)) [])] } [] ⟨(NN (fun _=>rfl) (fun _ _=>rfl) u2 u1 (u0.length:Int) rfl rfl),trivial⟩ ?_
     refine aO h fun⟨a1,a2⟩ h=> ?_
     refine rg tT ⟨[(2,(vP 55 0)),(dS s_),(5,(vP 58 0)),(afY u0),rG,(9,(vI u3)),(10,(vI u1)),(31,(vI p.buses)),(32,(vI u3))],(aiO p u8 u0 u1 u2)⟩ [[(⟨([]:List Int),([]:List Int)⟩:aG)].length=1,aT 1 2 (xL 2 [nS,nS]) (xL 2 [nS,nS]),u0.length=u0.length,_,_,(JE u0).length=u0.length+[(⟨([]:List Int),([]:List Int)⟩:aG)].length,Lc u0.length [(⟨([]:List Int),([]:List Int)⟩:aG)].length 2 (BF aG.ev u0) (xL 2 [nS,nS]) (adB u0)] {an:=[(2, .arr [(⟨([]:List Int),([]:List Int)⟩:aG)].length (xL 2 [nS,nS])),(3, .rows (JE u0).length (adB u0))],fr:=[(2,86),(3,87)] } [] ⟨(rfl),(nQ _ _ _),rfl,a1,a2,(List.length_append),(acN _ _ _ _ _ (by intro i hi j hj;match i,j,hi,hj with|0,0,_,_=>exact⟨rfl,_,_,_,rfl⟩|0,1,_,_=>exact⟨rfl,_,_,_,rfl⟩)),trivial⟩ ?_
     refine sg tT ⟨[(2,(vP 55 0)),(dS s_),(5,(vP 58 0)),(afY u0),rG,(9,(vI u3)),(13,(vI (KU u0 u1 u2))),(31,(vI p.buses)),(32,(vI u3))],(aiO p u8 u0 u1 u2)⟩ [tV [some .i64] 1 1 (Ik u0 u1 u2).length (Gb (aC .i64) (Ik u0 u1 u2)) (IB (aC .i64) (Ik u0 u1 u2)) [(.int .i64 u1)] [(.d (.int .i64 0))] (bQ gI u1 (Ik u0 u1 u2)).isSome [(cI (KU u0 u1 u2))]] {an:=[(2, .look (bQ gI u1 (Ik u0 u1 u2)).isSome [(cI (KU u0 u1 u2))])] } [] ⟨(um (fun _=>rfl) (fun _ _=>rfl) (Ik u0 u1 u2) u1 0 rfl rfl rfl),trivial⟩ ?_
     refine aO h fun⟨a1,a2,a3⟩ h=> ?_
     refine ri tT ⟨[(2,(vP 55 0)),(dS s_),(5,(vP 58 0)),(afY u0),rG,(31,(vI p.buses)),(32,(vI u3))],[(Iu p),(EX u8),CP,(abk u0 u1 u2),(87,some (.rows 211 2 (JE u0).length (aak u3 u0 u1 u2) none))]⟩ [(0:Int)≤(KU u0 u1 u2)∧(KU u0 u1 u2)<((JE u0).length:Int),(KU u0 u1 u2).toNat<(JE u0).length,[u3].length=1,aT 1 1 (xL 1 [(.int .i64 u3)]) (au (aC .i64) [u3]),(Q8 u0 u1 u2).length=(Q8 u0 u1 u2).length,(al4 u3 u0 u1 u2)*8≤140737488355328,(Q8 u0 u1 u2).length+[u3].length≤4611686018427387904,(WH u3 u0 u1 u2).length=(Q8 u0 u1 u2).length+[u3].length,aT (al4 u3 u0 u1 u2) 1 (yJ (au (aC .i64) (Q8 u0 u1 u2)) (Q8 u0 u1 u2).length (au (aC .i64) [u3])) (ahd u3 u0 u1 u2),(0:Int)≤(KU u0 u1 u2)∧(KU u0 u1 u2)<((JE u0).length:Int),(KU u0 u1 u2).toNat<(JE u0).length,(WH u3 u0 u1 u2).length=(WH u3 u0 u1 u2).length,aa5 (JE u0).length 2 (stV (adB u0) (ag8 u0 u1 u2) 0 (.row 3 1 (WH u3 u0 u1 u2).length (ahd u3 u0 u1 u2))) (aak u3 u0 u1 u2),∀i0 j0 c0,((some ((KU u0 u1 u2).toNat,0,CV.own 88 false (Q8 u0 u1 u2).length)):Option (Nat × Nat × CV))=some (i0,j0,c0)→i0=(KU u0 u1 u2).toNat∧j0=0] {an:=[(6, .take 88),(8, .arr [u3].length (au (aC .i64) [u3])),(9, .arr (WH u3 u0 u1 u2).length (ahd u3 u0 u1 u2)),(12, .rows 0 (aak u3 u0 u1 u2))],fr:=[(8,89),(9,90)] } [] ⟨a1,(tL a1),(rfl),((by intro i hi j hj;match i,j,hi,hj with|0,0,_,_=>rfl)),rfl,a2,a3,(List.length_append),(dA _ _ _ _),a1,(tL a1),rfl,(Ma _ _ _ _ _ _ _ _ rfl (fun j hj=>(match j,hj with|0,_=>rfl|1,_=>rfl))),((fun i0 j0 c0 e=>by cases e;exact⟨rfl,rfl⟩)),trivial⟩ (bJ.le (st':=⟨[(2,(vP 55 0)),(dS s_),(5,(vP 58 0)),(akF u3 u0 u1 u2),rG,(31,(vI p.buses)),(32,(vI u3))],(aku p u8 u3 u0 u1 u2)⟩) ⟨⟨tR,tR,tR,⟨_,rfl,fe.v (jB.one cW)⟩,tR,tR,tR,trivial⟩,(hN 4 ⟨rfl,IV (by simp only [List.length_set,List.length_append,List.length_cons,List.length_nil,List.length_replicate]),trivial⟩)⟩) ?_
     refine ri tT ⟨[(2,(vP 55 0)),(dS s_),(5,(vP 58 0)),(akF u3 u0 u1 u2),rG,(31,(vI p.buses)),(aay u3)],(aku p u8 u3 u0 u1 u2)⟩ [] {} [] trivial (bJ.fin (st':=⟨[(2,(vP 55 0)),(dS s_),(5,(vP 58 0)),(7,(vO 60 false (aj0 u3 u0 u1 u2))),rG,(31,(vI p.buses)),(aay u3)],[(Iu p),(EX u8),CP,(60,some (.rows 211 2 (aeG u3 u0 u1 u2).length (aak u3 u0 u1 u2) none)),(abk u0 u1 u2)]⟩) (cs:=[]) ⟨[],[(55,55),(57,57),(58,58),(87,60),(61,61)]⟩ [2,3,5,7,8,31,32] (by kernel_rfl) trivial) ?_
     obtain rfl:=oi h
     exact lN
    ·refine cf hb ?_
     refine aP (sg tT ⟨[(2,(vP 55 0)),(dS s_),(5,(vP 58 0)),(CG u0),rG,(9,(vI u3)),(13,(vI (uF u1 u2))),(31,(vI p.buses)),(32,(vI u3))],(Oz u0 p u8 u2)⟩ [tV [some .i64] 1 1 u2.length (Gb (aC .i64) u2) (IB (aC .i64) u2) [(.int .i64 u1)] [(.d (.int .i64 0))] (bQ gI u1 u2).isSome (ZG u1 u2)] {an:=[(2, .look (bQ gI u1 u2).isSome (ZG u1 u2))] } [] ⟨(um (fun _=>rfl) (fun _ _=>rfl) u2 u1 0 rfl rfl rfl),trivial⟩ ?_)
     refine aO h fun⟨a1,a2,a3⟩ h=> ?_
     refine ri tT ⟨(al2 u0 s_ p u3),[(Iu p),(EX u8),CP,(60,some (.rows 211 2 u0.length (aev u3 u0 u1 u2) none)),(XK u2)]⟩ [(0:Int)≤(uF u1 u2)∧(uF u1 u2)<(u0.length:Int),(uF u1 u2).toNat<u0.length,[u3].length=1,aT 1 1 (xL 1 [(.int .i64 u3)]) (au (aC .i64) [u3]),(N8 u0 u1 u2).length=(N8 u0 u1 u2).length,((N8 u0 u1 u2).length+[u3].length)*8≤140737488355328,(N8 u0 u1 u2).length+[u3].length≤4611686018427387904,(VA u3 u0 u1 u2).length=(N8 u0 u1 u2).length+[u3].length,aT ((N8 u0 u1 u2).length+[u3].length) 1 (yJ (au (aC .i64) (N8 u0 u1 u2)) (N8 u0 u1 u2).length (au (aC .i64) [u3])) (af8 u3 u0 u1 u2),(0:Int)≤(uF u1 u2)∧(uF u1 u2)<(u0.length:Int),(uF u1 u2).toNat<u0.length,(VA u3 u0 u1 u2).length=(VA u3 u0 u1 u2).length,aa5 u0.length 2 (stV (BF aG.ev u0) ((uF u1 u2).toNat) 0 (.row 3 1 (VA u3 u0 u1 u2).length (af8 u3 u0 u1 u2))) (aev u3 u0 u1 u2),∀i0 j0 c0,((some ((uF u1 u2).toNat,0,CV.own 91 false (N8 u0 u1 u2).length)):Option (Nat × Nat × CV))=some (i0,j0,c0)→i0=(uF u1 u2).toNat∧j0=0] {an:=[(6, .take 91),(8, .arr [u3].length (au (aC .i64) [u3])),(9, .arr (VA u3 u0 u1 u2).length (af8 u3 u0 u1 u2)),(12, .rows 0 (aev u3 u0 u1 u2))],fr:=[(8,92),(9,93)] } [] ⟨a1,(tL a1),(rfl),((by intro i hi j hj;match i,j,hi,hj with|0,0,_,_=>rfl)),rfl,a2,a3,(List.length_append),(dA _ _ _ _),a1,(tL a1),rfl,(Ma _ _ _ _ _ _ _ _ rfl (fun j hj=>(match j,hj with|0,_=>rfl|1,_=>rfl))),((fun i0 j0 c0 e=>by cases e;exact⟨rfl,rfl⟩)),trivial⟩ (bJ.le (st':=⟨[(2,(vP 55 0)),(dS s_),(5,(vP 58 0)),(alU u3 u0 u1 u2),rG,(31,(vI p.buses)),(32,(vI u3))],(aik p u8 u3 u0 u1 u2)⟩) ⟨⟨tR,tR,tR,⟨_,rfl,fe.v (jB.one cW)⟩,tR,tR,tR,trivial⟩,(hN 3 ⟨rfl,IV (by simp only [List.length_set,List.length_append,List.length_cons,List.length_nil,List.length_replicate]),(.refl _)⟩)⟩) ?_
     refine rz tT ⟨[(2,(vP 55 0)),(dS s_),(5,(vP 58 0)),(alU u3 u0 u1 u2),rG,(31,(vI p.buses)),(aay u3)],(aik p u8 u3 u0 u1 u2)⟩ {} [] ?_
     obtain rfl:=oi h
     exact lN
  ·refine cf hb2 ?_
   refine aI (fz (ajJ s_ u0 p u8 u2) []) ?_
   refine aX ?_
   obtain rfl:=oi h
   exact lB
 ·clear hy
  cases y with
  |brk z=>
   obtain⟨v0,u4⟩:=z
   unfold fE
   refine⟨_, .refl, ?_⟩
   refine aQ (sz tT ⟨[(dS s_),(5,(vP 58 0)),(CG v0),rG,(Qs p),(Qp p),(78,(vI 0))],(WC v0 u8 u4)⟩ {} [] ?_)
   refine bE h fun y1 hy h=> ?_
   refine aL [] (tq p s_ u8 u4) sZ iP hy (fun s f h=> ?_) ?_
   ·clear hy
    show bG _ _ _ _ _ _ ((Df p s_ u8 u4) f) _
    unfold fU at h
    obtain⟨u6,u5⟩:=s
    refine sz tT ⟨[(dS s_),(5,(vP 58 0)),(CG u6),rG,(Qs p),(Qp p),(78,(vI u5)),(79,(k36 p u5))],(WC u6 u8 u4)⟩ {} [] ?_
    refine aQ ?_
    refine bI h (fun hb4 h=> ?_) (fun hb4 h=> ?_)
    ·refine ct hb4 ?_
     refine aP (aQ (aB (aQ (aO h fun a1 h=> ?_))))
     refine rg tT ⟨[(dS s_),(5,(vP 58 0)),(CG u6),rG,(14,(vI u5)),(ai8 p u5),(Qs p),(Qp p),(78,(vI u5))],(WC u6 u8 u4)⟩ [_] {fr:=[(3,106)] } [106] ⟨a1,trivial⟩ ?_
     refine aQ (aO h fun⟨a1,a2,a3⟩ h=> ?_)
     refine rg tT ⟨[(dS s_),(5,(vP 58 0)),(CG u6),rG,(14,(vI u5)),(ai8 p u5),(Qs p),(Qp p),(78,(vI u5)),(104,(aim p s_ u5))],(WC u6 u8 u4)⟩ (_::(eqs (at' s_.on_ u5.toNat) 4 ((aja s_ u5)::(eqs (at' s_.on_ u5.toNat) 3 (eqs (Qy s_ u5) 5 (amW p s_ u5)))))) {yb:=[(5,(at' s_.on_ u5.toNat)),(13,(Qy s_ u5))] } [] ⟨a1,(ae ⟨(fun hg=> ⟨(a2 (aU hg)),trivial⟩),(ae (ae ⟨(fun hg=> ⟨(a3 (aU hg)),trivial⟩),(ae trivial)⟩))⟩)⟩ ?_
     refine bI h (fun hb3 h=> ?_) (fun hb3 h=> ?_)
     ·refine ct hb3 ?_
      refine aQ (bE h fun u7 hr_3 h=> ?_)
      have q0:=rk [(0,57)] (iX u8 (ZJ p u5) hr_3)
      refine rg tT ⟨[(dS s_),(5,(vP 58 0)),(CG u6),rG,(14,(vI u5)),(16,(vI (uF u7 u4))),(Qs p),(Qp p),(78,(vI u5))],(WC u6 u8 u4)⟩ [_,tV [some .i64] 1 1 u4.length (Gb (aC .i64) u4) (IB (aC .i64) u4) [(.int .i64 u7)] [(.d (.int .i64 0))] (bQ gI u7 u4).isSome (ZG u7 u4)] {an:=[(4,cR q0 [57]),(5, .look (bQ gI u7 u4).isSome (ZG u7 u4))] } [] ⟨q0,(um (fun _=>rfl) (fun _ _=>rfl) u4 u7 0 rfl rfl rfl),trivial⟩ ?_
      refine aO h fun⟨a1,a2,a3⟩ h=> ?_
      refine ri tT ⟨(ang p s_ u6 u5),[(EX u8),CP,(60,some (.rows 211 2 u6.length (adu u5 u6 u7 u4) none)),(XK u4)]⟩ [(0:Int)≤(uF u7 u4)∧(uF u7 u4)<(u6.length:Int),(uF u7 u4).toNat<u6.length,[u5].length=1,aT 1 1 (xL 1 [(.int .i64 u5)]) (au (aC .i64) [u5]),(Oe u6 u7 u4).length=(Oe u6 u7 u4).length,((Oe u6 u7 u4).length+[u5].length)*8≤140737488355328,(Oe u6 u7 u4).length+[u5].length≤4611686018427387904,(Vm u5 u6 u7 u4).length=(Oe u6 u7 u4).length+[u5].length,aT ((Oe u6 u7 u4).length+[u5].length) 1 (yJ (au (aC .i64) (Oe u6 u7 u4)) (Oe u6 u7 u4).length (au (aC .i64) [u5])) (ahE u5 u6 u7 u4),(0:Int)≤(uF u7 u4)∧(uF u7 u4)<(u6.length:Int),(uF u7 u4).toNat<u6.length,(Vm u5 u6 u7 u4).length=(Vm u5 u6 u7 u4).length,aa5 u6.length 2 (stV (BF aG.ev u6) ((uF u7 u4).toNat) 1 (.row 3 1 (Vm u5 u6 u7 u4).length (ahE u5 u6 u7 u4))) (adu u5 u6 u7 u4),∀i0 j0 c0,((some ((uF u7 u4).toNat,1,CV.own 107 false (Oe u6 u7 u4).length)):Option (Nat × Nat × CV))=some (i0,j0,c0)→i0=(uF u7 u4).toNat∧j0=1] {an:=[(6, .take 107),(8, .arr [u5].length (au (aC .i64) [u5])),(9, .arr (Vm u5 u6 u7 u4).length (ahE u5 u6 u7 u4)),(12, .rows 0 (adu u5 u6 u7 u4))],fr:=[(8,108),(9,109)] } [] ⟨a1,(tL a1),(rfl),((by intro i hi j hj;match i,j,hi,hj with|0,0,_,_=>rfl)),rfl,a2,a3,(List.length_append),(dA _ _ _ _),a1,(tL a1),rfl,(Ma _ _ _ _ _ _ _ _ rfl (fun j hj=>(match j,hj with|0,_=>rfl|1,_=>rfl))),((fun i0 j0 c0 e=>by cases e;exact⟨rfl,rfl⟩)),trivial⟩ (bJ.le (st':=⟨[(dS s_),(5,(vP 58 0)),(anc u5 u6 u7 u4),rG,(Qs p),(Qp p),(78,(vI u5))],(akQ u8 u5 u6 u7 u4)⟩) ⟨⟨tR,tR,⟨_,rfl,fe.v (jB.one cW)⟩,tR,tR,tR,tR,trivial⟩,(hN 2 ⟨rfl,IV (by simp only [List.length_set,List.length_append,List.length_cons,List.length_nil,List.length_replicate]),(.refl _)⟩)⟩) ?_
      refine rz tT ⟨[(dS s_),(5,(vP 58 0)),(anc u5 u6 u7 u4),rG,(Qs p),(Qp p),(78,(Am u5))],(akQ u8 u5 u6 u7 u4)⟩ {} [] ?_
      obtain rfl:=oi h
      exact lN
     ·refine cf hb3 ?_
      refine aP (rz tT ⟨[(dS s_),(5,(vP 58 0)),(CG u6),rG,(Qs p),(Qp p),(78,(Am u5))],(WC u6 u8 u4)⟩ {} [] ?_)
      obtain rfl:=oi h
      exact lN
    ·refine cf hb4 ?_
     refine aI (fz (akD u6) []) ?_
     refine aX ?_
     obtain rfl:=oi h
     exact lB
   ·clear hy
    cases y1 with
    |brk z=>
     obtain⟨u9,rfl⟩: ∃q,q=z:=⟨_,rfl⟩
     unfold fE
     refine⟨_, .refl, ?_⟩
     refine sz tT ⟨[(4,(vO 60 false u9.length))],[(abb u9)]⟩ {} [] ?_
     refine aI (.trans (fi ⟨[(4,(vD (.sl none 2 u9.length (fun i j=>evD (BF aG.ev u9 i j)))))],[]⟩ [u9.length=u9.length] [60] ⟨rfl,trivial⟩) (bJ.le (st':=⟨[(4,(vD (aD none 2 aG.cell u9)))],[]⟩) ⟨⟨⟨_,rfl,fe.v (jB.one (bH.d (dR.sl (.inr rfl) (fun i _ j hj=>match j,hj with|0,_=> .refl _|1,_=> .refl _))))⟩,trivial⟩,trivial⟩)) ?_
     refine aR ?_
     obtain rfl:=oi h
     exact rl [(sD (aD none 2 aG.cell u9))]
    |ret v=>
     obtain rfl:=oi h
     unfold fE
     intro e st hn ha hR
     cases e with
     |normal=>exact absurd rfl hn
     |exit id=>exact hR
     |goto l=>exact hR
     |ret=>exact hR
     |panic c=>exact hR
     |outgrown=>exact hR
  |ret v=>
   obtain rfl:=oi h
   unfold fE
   intro e st hn ha hR
   cases e with
   |normal=>exact absurd rfl hn
   |exit id=>exact hR
   |goto l=>exact hR
   |ret=>exact hR
   |panic c=>exact hR
   |outgrown=>exact hR
def xQ  :((List Bool) × Int)→Exit→St→Prop:=
  fun r=>aW TT [.tmp 4, .tmp 5] (.iB [(sD (aD none 1 af r.1)),(sI r.2)]) []
section
variable (u1:(List Bool)) (u0:(List aG)) (u2:Int)
abbrev NW:Nat × TV:=(7,(vO 9 true u1.length))
abbrev MS:Nat × TV:=(23,(vD (aD none 2 aG.cell u0)))
abbrev LW:Nat × TV:=(24,(vI (u0.length:Int)))
abbrev Q5:List (Nat × Option Ob):=[(9,some (aF 4 1 af u1))]
abbrev ahs:St:=⟨[(NW u1),(MS u0),(LW u0),(25,(vI u2))],(Q5 u1)⟩
end
def Ci (u0:(List aG)):((List Bool) × Int)→St:=
  fun zz=>match zz with|(u1,u2)=>(ahs u1 u0 u2)
def Co  :(List Bool)→St:=
  fun u0=> ⟨[(NW u0)],(Q5 u0)⟩
def vG (u0:(List aG)):(aM ((List Bool) × Int) (Ex (List Bool) ((List Bool) × Int)))→Exit→St→Prop:=
  LQ 0 [] (Ci u0) Co xQ
section
variable (u0:(List aG)) (u1:Int) (u2:(List Bool)) (u3:Int)
abbrev Yo:Nat × TV:=(9,(vD (oL [(aD none 1 (aC .i64) ((at' u0 u1.toNat).buses)),(aD none 1 (aC .i64) ((at' u0 u1.toNat).sources))] 0)))
abbrev Yq:Nat × TV:=(30,(vD (aD none 1 (aC .i64) ((at' u0 u1.toNat).buses))))
abbrev XI:Nat × TV:=(31,(vI (((at' u0 u1.toNat).buses).length:Int)))
abbrev al6:List (Nat × TV):=[(NW u2),(Yo u0 u1),(MS u0),(LW u0),(25,(vI u1)),(Yq u0 u1),(XI u0 u1),(32,(vI u3))]
end
def Cz (u0:(List aG)) (u1:Int):((List Bool) × Int)→St:=
  fun zz=>match zz with|(u2,u3)=> ⟨(al6 u0 u1 u2 u3),(Q5 u2)⟩
def CB (u0:(List aG)) (u2:Int):(List Bool)→St:=
  fun u1=>(ahs u1 u0 u2)
def KS (u0:(List aG)) (u1:Int):(aM ((List Bool) × Int) (Ex (List Bool) (aM ((List Bool) × Int) (Ex (List Bool) ((List Bool) × Int)))))→Exit→St→Prop:=
  LQ 2 [1] (Cz u0 u1) (CB u0 u1) (vG u0)
section
variable (p:ah) (s_:State) (r_:Int) (u2:(List Bool)) (u0:(List aG)) (u1:Int) (u3:Int) (u5:(List Bool))
abbrev ajn:St:=⟨[(k7 p),(dS s_),(6,(vI r_))],[]⟩
abbrev Dr:=(List.replicate p.buses.toNat (false:Bool))
abbrev YB:=((Dr p).length)
abbrev aaV:Ob:=(aF 4 1 af (Dr p))
abbrev QR:=(au af (Dr p))
abbrev ag9:=(u2.set ((at' ((at' u0 u1.toNat).buses) u3.toNat).toNat) (decide (0<(((at' u0 u1.toNat).sources).length:Int))))
abbrev af6:=(au af (ag9 u2 u0 u1 u3))
abbrev amt:Nat × TV:=(7,(vO 9 true ((ag9 u2 u0 u1 u3).length)))
abbrev amQ:List (Nat × Option Ob):=[(9,some (aF 4 1 af (ag9 u2 u0 u1 u3)))]
abbrev Zo:Nat × TV:=(4,(vD (aD none 1 af u5)))
end
theorem KP (p:ah) (s_:State) {r:((List Bool) × Int)} (h:oU p s_=some r):Fn Tryz.prog 92 (Oc s_ p) [] (.iB [(sD (aD none 1 af r.1)),(sI r.2)]) []:=by
 refine fN tT Tryz.func92 rfl rfl fun B=> ?_
 show bG _ _ _ _ _ _ (xQ r) _
 unfold oU at h
 refine sz tT (ZX p s_) {fr:=[(0,7),(1,8)] } [7,8] ?_
 refine aQ (aQ (bE h fun r_ hr_ h=> ?_))
 have q0:=j4 p s_ hr_
 refine rg tT (ajn p s_ r_) [_] {an:=[(2,cA q0 [])] } [] ⟨q0,trivial⟩ ?_
 refine sz tT ⟨[(k7 p),(dS s_),(6,(vI r_)),(16,(vB (!decide (r_=0))))],[]⟩ {} [] ?_
 refine bI h (fun hb2 h=> ?_) (fun hb2 h=> ?_)
 ·refine ct hb2 ?_
  refine sz tT ⟨[(4,(vD nS)),(5,(vI r_))],[]⟩ {} [] ?_
  refine aI (bJ.le (st':=⟨[(4,(vD CQ)),(5,(vI r_))],[]⟩) ⟨⟨⟨_,rfl,fe.v (jB.one (bH.d dR.nil'))⟩,tR,trivial⟩,trivial⟩) ?_
  refine aR ?_
  obtain rfl:=oi h
  exact rl [(sD CQ),(sI r_)]
 ·refine cf hb2 ?_
  refine aP (aQ (aO h fun⟨a1,a2,a3⟩ h=> ?_))
  refine rg tT ⟨[(k7 p),(dS s_),(7,(vO 9 true (YB p)))],[(9,some (aaV p))]⟩ [_,(p.buses:Int)=p.buses,_,_,(Dr p).length=p.buses.toNat,aT p.buses.toNat 1 (fun _ j=>[(.bool false)].getD j .nilp) (QR p)] {an:=[(2, .arr (Dr p).length (QR p))],fr:=[(2,9)] } [] ⟨a1,rfl,a2,a3,(List.length_replicate),(iZ _ _ _ _ _ (fun j hj=>(match j,hj with|0,_=>rfl))),trivial⟩ ?_
  refine aQ (aQ (bE h fun u0 hr_1 h=> ?_))
  have q0:=Db p s_ hr_1
  refine rg tT ⟨[(7,(vO 9 true (YB p))),(MS u0),(LW u0),(25,(vI 0))],[(9,some (aaV p))]⟩ [_] {an:=[(2,cA q0 [])] } [] ⟨q0,trivial⟩ ?_
  refine bE h fun y1 hy h=> ?_
  refine aL [] (Ci u0) Co xQ hy (fun s f h=> ?_) ?_
  ·clear hy
   show bG _ _ _ _ _ _ ((vG u0) f) _
   unfold kz at h
   obtain⟨u4,u1⟩:=s
   refine sz tT ⟨[(NW u4),(MS u0),(LW u0),(25,(vI u1)),(26,(vB (decide (u1<(u0.length:Int)))))],(Q5 u4)⟩ {} [] ?_
   refine aQ ?_
   refine bI h (fun hb1 h=> ?_) (fun hb1 h=> ?_)
   ·refine ct hb1 ?_
    refine aP (aQ (aB (aQ (aO h fun a1 h=> ?_))))
    refine rg tT ⟨[(NW u4),(9,(vP 13 0)),(MS u0),(LW u0),(25,(vI u1))],[(9,some (aF 4 1 af u4)),(13,some (.cells 211 [(.d (aD none 1 (aC .i64) ((at' u0 u1.toNat).buses))),(.d (aD none 1 (aC .i64) ((at' u0 u1.toNat).sources)))]))]⟩ [_] {fr:=[(2,13)] } [] ⟨a1,trivial⟩ ?_
    refine sz tT ⟨[(NW u4),(Yo u0 u1),(MS u0),(LW u0),(25,(vI u1)),(Yq u0 u1),(XI u0 u1),(32,(vI 0))],(Q5 u4)⟩ {} [13] ?_
    refine bE h fun y hy h=> ?_
    refine aL [1] (Cz u0 u1) (CB u0 u1) (vG u0) hy (fun s f h=> ?_) ?_
    ·clear hy
     show bG _ _ _ _ _ _ ((KS u0 u1) f) _
     unfold kC at h
     obtain⟨u2,u3⟩:=s
     refine sz tT ⟨[(NW u2),(Yo u0 u1),(MS u0),(LW u0),(25,(vI u1)),(Yq u0 u1),(XI u0 u1),(32,(vI u3)),(33,(vB (decide (u3<(((at' u0 u1.toNat).buses).length:Int)))))],(Q5 u2)⟩ {} [] ?_
     refine aQ ?_
     refine bI h (fun hb h=> ?_) (fun hb h=> ?_)
     ·refine ct hb ?_
      refine aP (aQ (aB (aQ (aO h fun a1 h=> ?_))))
      refine rg tT ⟨[(NW u2),(Yo u0 u1),(11,(vI (at' ((at' u0 u1.toNat).buses) u3.toNat))),(MS u0),(LW u0),(25,(vI u1)),(Yq u0 u1),(XI u0 u1),(32,(vI u3))],(Q5 u2)⟩ [_] {} [] ⟨a1,trivial⟩ ?_
      refine aO h fun a1 h=> ?_
      refine ri tT ⟨(al6 u0 u1 u2 u3),[(9,some (.arr 4 1 u2.length (af6 u2 u0 u1 u3)))]⟩ [_,_,aT u2.length 1 (lH (au af u2) ((at' ((at' u0 u1.toNat).buses) u3.toNat).toNat) 0 [(.bool (decide (0<(((at' u0 u1.toNat).sources).length:Int))))]) (af6 u2 u0 u1 u3)] {an:=[(7, .arr 0 (af6 u2 u0 u1 u3))] } [] ⟨a1,(tL a1),(dD _ _ _ _ _ _ _ _ rfl (fun j hj=>(match j,hj with|0,_=>rfl))),trivial⟩ (bJ.le (st':=⟨[(amt u2 u0 u1 u3),(Yo u0 u1),(MS u0),(LW u0),(25,(vI u1)),(Yq u0 u1),(XI u0 u1),(32,(vI u3))],(amQ u2 u0 u1 u3)⟩) ⟨⟨⟨_,rfl,fe.v (jB.one cW)⟩,tR,tR,tR,tR,tR,tR,tR,trivial⟩,⟨rfl,oW,trivial⟩⟩) ?_
      refine rz tT ⟨[(amt u2 u0 u1 u3),(Yo u0 u1),(MS u0),(LW u0),(25,(vI u1)),(Yq u0 u1),(XI u0 u1),(aay u3)],(amQ u2 u0 u1 u3)⟩ {} [] ?_
      obtain rfl:=oi h
      exact lN
     ·refine cf hb ?_
      refine aI (fz (ahs u2 u0 u1) []) ?_
      refine aX ?_
      obtain rfl:=oi h
      exact lB
    ·clear hy
     cases y with
     |brk z=>
      obtain⟨u6,rfl⟩: ∃q,q=z:=⟨_,rfl⟩
      unfold fE
      refine⟨_, .refl, ?_⟩
      refine rz tT ⟨[(NW u6),(MS u0),(LW u0),(25,(Am u1))],(Q5 u6)⟩ {} [] ?_
      obtain rfl:=oi h
      exact lN
     |ret v=>
      obtain rfl:=oi h
      unfold fE
      intro e st hn ha hR
      cases e with
      |normal=>exact absurd rfl hn
      |exit id=>simp only [tZ (b:=1) ha rfl,cond_false];exact hR
      |goto l=>exact hR
      |ret=>exact hR
      |panic c=>exact hR
      |outgrown=>exact hR
   ·refine cf hb1 ?_
    refine aI (fz ⟨[(NW u4)],(Q5 u4)⟩ []) ?_
    refine aX ?_
    obtain rfl:=oi h
    exact lB
  ·clear hy
   cases y1 with
   |brk z=>
    obtain⟨u5,rfl⟩: ∃q,q=z:=⟨_,rfl⟩
    unfold fE
    refine⟨_, .refl, ?_⟩
    refine sg tT ⟨[(4,(vD (aD (some true) 1 af u5))),(5,(vI 0))],[]⟩ [u5.length=u5.length] {} [9] ⟨rfl,trivial⟩ ?_
    refine aI (bJ.le (st':=⟨[(Zo u5),(5,(vI 0))],[]⟩) ⟨⟨⟨_,rfl,fe.v (jB.one (bH.d dR.nI))⟩,tR,trivial⟩,trivial⟩) ?_
    refine aR ?_
    obtain rfl:=oi h
    exact rl [(sD (aD none 1 af u5)),(sI 0)]
   |ret v=>
    obtain rfl:=oi h
    unfold fE
    intro e st hn ha hR
    cases e with
    |normal=>exact absurd rfl hn
    |exit id=>exact hR
    |goto l=>exact hR
    |ret=>exact hR
    |panic c=>exact hR
    |outgrown=>exact hR
def zF  :((List ax) × Int)→Exit→St→Prop:=
  fun r=>aW TT [.tmp 4, .tmp 5] (.iB [(sD (aD none 2 ax.cell r.1)),(sI r.2)]) []
section
variable (r_:((List Bool) × Int)) (u0:(List ax)) (p:ah)
abbrev pG:Nat × TV:=(6,(vD (aD none 1 af r_.1)))
abbrev Iz:Nat × TV:=(8,(vO 23 false u0.length))
abbrev CF:Nat × TV:=(24,(vD (k6 p)))
abbrev Dk:Nat × TV:=(25,(vI (p.racks.length:Int)))
abbrev adw:Nat × Option Ob:=(23,some (aF 116 2 ax.cell u0))
abbrev acu:List (Nat × Option Ob):=[(adw u0)]
end
def Eu (p:ah) (r_:((List Bool) × Int)):((List ax) × Int)→St:=
  fun zz=>match zz with|(u0,u1)=> ⟨[(pG r_),(Iz u0),(CF p),(Dk p),(26,(vI u1))],(acu u0)⟩
def EA  :(List ax)→St:=
  fun u0=> ⟨[(Iz u0)],(acu u0)⟩
def LG (p:ah) (r_:((List Bool) × Int)):(aM ((List ax) × Int) (Ex (List ax) ((List ax) × Int)))→Exit→St→Prop:=
  LQ 0 [] (Eu p r_) EA zF
section
variable (p:ah) (u0:Int) (u1:(List ax)) (r_:((List Bool) × Int))
abbrev adF:List (Nat × Option Ob):=[(18,some (Xh p))]
abbrev ajM:Nat × TV:=(10,(k51 p u0))
abbrev acW:List (Nat × Option Ob):=[(adw u1),(33,some (.cells 116 [(cB false),(cB false)]))]
abbrev abo:List CV:=[(cI (Xj p u0)),(cI (YM p u0))]
abbrev Ur:Nat × TV:=(31,(.v (.agg (abo p u0))))
abbrev aiQ:List (Nat × TV):=[(pG r_),(Iz u1),(11,(vP 33 0)),(CF p),(Dk p),(26,(vI u0)),(Ur p u0),(32,(vI 0))]
abbrev aat:=(decide (0≤(Xj p u0)))
abbrev aea:=(bif (aat p u0)then(at' r_.1 ((Xj p u0).toNat))else false)
abbrev aex:List (Nat × Option Ob):=[(adw u1),(33,some (.cells 116 [(cB (aea p u0 r_)),(cB false)]))]
abbrev ane:List (Nat × TV):=[(pG r_),(Iz u1),(11,(vP 33 0)),(CF p),(Dk p),(26,(vI u0)),(Ur p u0),(32,(vI 1))]
abbrev K3:=(decide (0≤(YM p u0)))
abbrev agF:=(bif (K3 p u0)then(at' r_.1 ((YM p u0).toNat))else false)
abbrev agP:List (Nat × Option Ob):=[(adw u1),(33,some (.cells 116 [(cB (aea p u0 r_)),(cB (agF p u0 r_))]))]
abbrev X5:=(⟨(aea p u0 r_),(agF p u0 r_)⟩:ax)
abbrev acj:=(u1++[(X5 p u0 r_)])
abbrev amm:=((acj p u0 u1 r_).length)
abbrev aio:Nat × TV:=(8,(vO 35 false (amm p u0 u1 r_)))
abbrev amv:Ob:=(aF 116 2 ax.cell (acj p u0 u1 r_))
abbrev ajX:List (Nat × Option Ob):=[(35,some (amv p u0 u1 r_))]
abbrev afV:=(au ax.cell [(X5 p u0 r_)])
abbrev aid:=(au ax.cell (acj p u0 u1 r_))
end
theorem Dl (p:ah) (s_:State) {r:((List ax) × Int)} (h:qD p s_=some r):Fn Tryz.prog 46 (Oc s_ p) [] (.iB [(sD (aD none 2 ax.cell r.1)),(sI r.2)]) []:=by
 refine fN tT Tryz.func46 rfl rfl fun B=> ?_
 show bG _ _ _ _ _ _ (zF r) _
 unfold qD at h
 refine sz tT ⟨[(2,(vP 18 0)),(dS s_)],(adF p)⟩ {fr:=[(0,18),(1,19)] } [19] ?_
 refine aQ (bE h fun r_ hr_ h=> ?_)
 have q0:=KP p s_ hr_
 refine rg tT ⟨[(2,(vP 18 0)),(pG r_),(7,(vI r_.2))],(adF p)⟩ [_] {an:=[(2,cA q0 [])] } [] ⟨q0,trivial⟩ ?_
 refine aQ (sz tT ⟨[(2,(vP 18 0)),(pG r_),(7,(vI r_.2)),(21,(vB (!decide (r_.2=0))))],(adF p)⟩ {} [] ?_)
 refine bI h (fun hb1 h=> ?_) (fun hb1 h=> ?_)
 ·refine ct hb1 ?_
  refine sz tT ⟨[(4,(vD nS)),(5,(vI r_.2))],[]⟩ {} [] ?_
  refine aI (bJ.le (st':=⟨[(4,(vD (aD none 2 ax.cell ([]:List ax)))),(5,(vI r_.2))],[]⟩) ⟨⟨⟨_,rfl,fe.v (jB.one (bH.d dR.nil'))⟩,tR,trivial⟩,trivial⟩) ?_
  refine aR ?_
  obtain rfl:=oi h
  exact rl [(sD (aD none 2 ax.cell ([]:List ax))),(sI r_.2)]
 ·refine cf hb1 ?_
  refine aP (sz tT ⟨[(2,(vP 18 0)),(pG r_),(8,(vD nS))],(adF p)⟩ {} [] ?_)
  refine aQ (sz tT ⟨[(pG r_),(8,(vD nS)),(CF p),(Dk p),(26,(vI 0))],[]⟩ {} [] ?_)
  refine bE h fun y hy h=> ?_
  refine aI (.trans (bJ.Er (t:=8) (b:=36) (esz0:=0) (el0:=fun _ _=> .nilp) (E:=116) (esz:=2) (el:=au ax.cell ([]:List ax)) (by kernel_rfl) (by kernel_rfl)) (.trans (bJ.fin (st':=⟨[(pG r_),(8,(vO 23 false 0)),(CF p),(Dk p),(26,(vI 0))],[(23,some (.arr 116 2 0 (au ax.cell ([]:List ax))))]⟩) (cs:=[]) ⟨[],[(36,23)]⟩ [6,8,24,25,26] (by kernel_rfl) trivial) (bJ.le (st':=⟨[(pG r_),(8,(vO 23 false (([]:List ax).length))),(CF p),(Dk p),(26,(vI 0))],[(23,some (aF 116 2 ax.cell ([]:List ax)))]⟩) ⟨⟨tR,⟨_,rfl,fe.v (jB.one cW)⟩,tR,tR,tR,trivial⟩,⟨rfl,oW,trivial⟩⟩))) ?_
  refine aL [] (Eu p r_) EA zF hy (fun s f h=> ?_) ?_
  ·clear hy
   show bG _ _ _ _ _ _ ((LG p r_) f) _
   unfold jO at h
   obtain⟨u1,u0⟩:=s
   refine sz tT ⟨[(pG r_),(Iz u1),(CF p),(Dk p),(26,(vI u0)),(27,(k49 p u0))],(acu u1)⟩ {} [] ?_
   refine aQ ?_
   refine bI h (fun hb h=> ?_) (fun hb h=> ?_)
   ·refine ct hb ?_
    refine aP (aQ (aB (aQ (aO h fun a1 h=> ?_))))
    refine rg tT ⟨[(pG r_),(Iz u1),(ajM p u0),(CF p),(Dk p),(26,(vI u0))],(acu u1)⟩ [_] {fr:=[(2,32)] } [32] ⟨a1,trivial⟩ ?_
    refine sz tT ⟨[(pG r_),(Iz u1),(ajM p u0),(11,(vP 33 0)),(CF p),(Dk p),(26,(vI u0))],(acW u1)⟩ {fr:=[(0,33)] } [] ?_
    refine aQ (sz tT ⟨(aiQ p u0 u1 r_),(acW u1)⟩ {} [] ?_)
    refine aB (PN 12 (jS 11 (sz tT ⟨[(pG r_),(Iz u1),(11,(vP 33 0)),(CF p),(Dk p),(26,(vI u0)),(Ur p u0),(32,(vI 0)),(33,(vB true))],(acW u1)⟩ {} [] ?_)))
    refine aQ (ck (aP (aQ (aB (sg tT ⟨[(pG r_),(Iz u1),(11,(vP 33 0)),(12,(vI 0)),(13,(vI (Xj p u0))),(CF p),(Dk p),(26,(vI u0)),(Ur p u0),(32,(vI 0))],(acW u1)⟩ [(0:Int)≤0∧(0:Int)<(2:Nat),0*1+1≤(abo p u0).length,((abo p u0).drop (0*1)).take 1=[(.int .i64 (Xj p u0))].map .d] {an:=[(1, .vals [(.int .i64 (Xj p u0))])] } [] ⟨((by decide)),(Nat.le_of_ble_eq_true rfl),(rfl),trivial⟩ ?_)))))
    refine aO h fun a1 h=> ?_
    refine rg tT ⟨(aiQ p u0 u1 r_),(aex p u0 u1 r_)⟩ (eqs (aat p u0) 3 ((gP (ic [(3,(aat p u0))]) [(3,true)]→All [(0:Int)≤(ZK p u0).e0∧(ZK p u0).e0<(r_.1.length:Int)])::(eqs (aat p u0) 2 [(0:Int)≤0∧(0:Int)<(2:Nat)]))) {yb:=[(3,(aat p u0))] } [] (ae ⟨(fun hg=> ⟨(a1 (aU hg)),trivial⟩),(ae ⟨((by decide)),trivial⟩)⟩) ?_
    refine rz tT ⟨(ane p u0 u1 r_),(aex p u0 u1 r_)⟩ {} [] ?_
    refine jS 10 (sz tT ⟨[(pG r_),(Iz u1),(11,(vP 33 0)),(CF p),(Dk p),(26,(vI u0)),(Ur p u0),(32,(vI 1)),(33,(vB true))],(aex p u0 u1 r_)⟩ {} [] ?_)
    refine aQ (ck (aP (aQ (aB (sg tT ⟨[(pG r_),(Iz u1),(11,(vP 33 0)),(12,(vI 1)),(13,(vI (YM p u0))),(CF p),(Dk p),(26,(vI u0)),(Ur p u0),(32,(vI 1))],(aex p u0 u1 r_)⟩ [(0:Int)≤1∧(1:Int)<(2:Nat),1*1+1≤(abo p u0).length,((abo p u0).drop (1*1)).take 1=[(.int .i64 (YM p u0))].map .d] {an:=[(1, .vals [(.int .i64 (YM p u0))])] } [] ⟨((by decide)),(Nat.le_of_ble_eq_true rfl),(rfl),trivial⟩ ?_)))))
    refine aO h fun a1 h=> ?_
    refine rg tT ⟨(ane p u0 u1 r_),(agP p u0 u1 r_)⟩ (eqs (K3 p u0) 3 ((gP (ic [(3,(K3 p u0))]) [(3,true)]→All [(0:Int)≤(ZK p u0).e1∧(ZK p u0).e1<(r_.1.length:Int)])::(eqs (K3 p u0) 2 [(0:Int)≤1∧(1:Int)<(2:Nat)]))) {yb:=[(3,(K3 p u0))] } [] (ae ⟨(fun hg=> ⟨(a1 (aU hg)),trivial⟩),(ae ⟨((by decide)),trivial⟩)⟩) ?_
    refine rz tT ⟨[(pG r_),(Iz u1),(11,(vP 33 0)),(CF p),(Dk p),(26,(vI u0)),(Ur p u0),(32,(vI 2))],(agP p u0 u1 r_)⟩ {} [] ?_
    refine jS 9 (sz tT ⟨[(pG r_),(Iz u1),(11,(vP 33 0)),(CF p),(Dk p),(26,(vI u0)),(Ur p u0),(32,(vI 2)),(33,(vB false))],(agP p u0 u1 r_)⟩ {} [] ?_)
    refine aQ (cn (aX (aO h fun⟨a1,a2⟩ h=> ?_)))
    refine rg tT ⟨[(pG r_),(aio p u0 u1 r_),(CF p),(Dk p),(26,(vI u0))],(ajX p u0 u1 r_)⟩ [[(X5 p u0 r_)].length=1,aT 1 2 (xL 2 [(.bool (aea p u0 r_)),(.bool (agF p u0 r_))]) (afV p u0 r_),u1.length=u1.length,_,_,(acj p u0 u1 r_).length=u1.length+[(X5 p u0 r_)].length,aT (u1.length+[(X5 p u0 r_)].length) 2 (yJ (au ax.cell u1) u1.length (afV p u0 r_)) (aid p u0 u1 r_)] {an:=[(2, .arr [(X5 p u0 r_)].length (afV p u0 r_)),(3, .arr (acj p u0 u1 r_).length (aid p u0 u1 r_))],fr:=[(2,34),(3,35)] } [] ⟨(rfl),((by intro i hi j hj;match i,j,hi,hj with|0,0,_,_=>rfl|0,1,_,_=>rfl)),rfl,a1,a2,(List.length_append),(dA _ _ _ _),trivial⟩ ?_
    refine ri tT ⟨[(pG r_),(aio p u0 u1 r_),(CF p),(Dk p),(26,(Am u0))],(ajX p u0 u1 r_)⟩ [] {} [] trivial (bJ.fin (st':=⟨[(pG r_),(8,(vO 23 false (amm p u0 u1 r_))),(CF p),(Dk p),(26,(Am u0))],[(23,some (amv p u0 u1 r_))]⟩) (cs:=[]) ⟨[],[(35,23)]⟩ [6,8,24,25,26] (by kernel_rfl) trivial) ?_
    obtain rfl:=oi h
    exact lN
   ·refine cf hb ?_
    refine aI (fz ⟨[(Iz u1)],(acu u1)⟩ []) ?_
    refine aX ?_
    obtain rfl:=oi h
    exact lB
  ·clear hy
   cases y with
   |brk z=>
    obtain⟨u2,rfl⟩: ∃q,q=z:=⟨_,rfl⟩
    unfold fE
    refine⟨_, .refl, ?_⟩
    refine sg tT ⟨[(4,(vD (aD none 2 ax.cell u2))),(5,(vI 0))],[]⟩ [u2.length=u2.length] {} [23] ⟨rfl,trivial⟩ ?_
    refine aR ?_
    obtain rfl:=oi h
    exact rl [(sD (aD none 2 ax.cell u2)),(sI 0)]
   |ret v=>
    obtain rfl:=oi h
    unfold fE
    intro e st hn ha hR
    cases e with
    |normal=>exact absurd rfl hn
    |exit id=>exact hR
    |goto l=>exact hR
    |ret=>exact hR
    |panic c=>exact hR
    |outgrown=>exact hR
def JN  :Bool→Exit→St→Prop:=
  fun r=>aW TT [.tmp 2] (vB r) []
theorem zk (x:ax) {r:Bool} (h:oI x=some r):Fn Tryz.prog 47 [(.agg [(cB x.e0),(cB x.e1)])] [] (vB r) []:=by
 refine fN tT Tryz.func47 rfl rfl fun B=> ?_
 show bG _ _ _ _ _ _ (JN r) _
 unfold oI at h
 refine sz tT ⟨[(1,(vD (oL [(.bool x.e0),(.bool x.e1)] 0)))],[]⟩ {fr:=[(0,1)] } [1] ?_
 refine sg tT ⟨[(2,(vB (bif x.e0 then true else x.e1)))],[]⟩ (((0:Int)≤0∧(0:Int)<(2:Nat))::(x.e0=x.e0)::(gP (ic [(2,x.e0)]) [(2,false)]→All [(0:Int)≤1∧(1:Int)<(2:Nat)])::(eqs x.e0 2 [])) {yb:=[(2,x.e0)] } [] ⟨((by decide)),rfl,(fun hg=> ⟨((by decide)),trivial⟩),(ae trivial)⟩ ?_
 refine aR ?_
 obtain rfl:=oi h
 exact rl [(sB (bif x.e0 then true else x.e1))]
def tK  :Bool→Exit→St→Prop:=
  fun r=>aW TT [.tmp 4] (vB r) []
def zq (a:(List Int)) (b:(List Int)):Int→St:=
  fun i=> ⟨[(pJ a),(wK b),(5,(vI i))],[]⟩
def y7  :Unit→St:=
  fun _=> ⟨[],[]⟩
def G8 (a:(List Int)) (b:(List Int)):(aM Int (Ex Unit Bool))→Exit→St→Prop:=
  LQ 0 [] (zq a b) y7 tK
theorem zo (a:(List Int)) (b:(List Int)) {r:Bool} (h:iV a b=some r):Fn Tryz.prog 18 [(sD (Fg a)),(sD (Fg b))] [] (vB r) []:=by
 refine fN tT Tryz.func18 rfl rfl fun B=> ?_
 show bG _ _ _ _ _ _ (tK r) _
 unfold iV at h
 refine sz tT (aeg a b) {} [] ?_
 refine aQ (sz tT ⟨[(pJ a),(wK b),(10,(vB (!decide ((a.length:Int)=(b.length:Int)))))],[]⟩ {} [] ?_)
 refine bI h (fun hb2 h=> ?_) (fun hb2 h=> ?_)
 ·refine ct hb2 ?_
  refine sz tT ⟨[(4,(vB false))],[]⟩ {} [] ?_
  refine aR ?_
  obtain rfl:=oi h
  exact rl [(sB false)]
 ·refine cf hb2 ?_
  refine aP (aQ (sz tT ⟨[(pJ a),(wK b),(5,(vI 0))],[]⟩ {} [] ?_))
  refine bE h fun y hy h=> ?_
  refine aL [] (zq a b) y7 tK hy (fun s f h=> ?_) ?_
  ·clear hy
   show bG _ _ _ _ _ _ ((G8 a b) f) _
   unfold kI at h
   obtain⟨i,rfl⟩: ∃q,q=s:=⟨_,rfl⟩
   refine aQ (sz tT ⟨[(pJ a),(wK b),(5,(vI i)),(14,(QT i a))],[]⟩ {} [] ?_)
   refine bI h (fun hb1 h=> ?_) (fun hb1 h=> ?_)
   ·refine ct hb1 ?_
    refine aP (aQ (aB (aQ (aO h fun⟨a1,a2⟩ h=> ?_))))
    refine dg tT mX ⟨[(pJ a),(wK b),(5,(vI i)),(25,(vB (!decide ((at' a i.toNat)=(at' b i.toNat)))))],[]⟩ [_,_] {} [] ⟨a1,a2,trivial⟩ ?_
    refine bI h (fun hb h=> ?_) (fun hb h=> ?_)
    ·refine ct hb ?_
     refine sz tT ⟨[(4,(vB false))],[]⟩ {} [] ?_
     refine aR ?_
     obtain rfl:=oi h
     exact lR bY (dm 0) bZ (aW.mk (.inr rfl) (p:=[]) (l:=[(sB false)]) (by kernel_rfl) trivial (fe.refl _) trivial)
    ·refine cf hb ?_
     refine aP (rz tT ⟨[(pJ a),(wK b),(k30 i)],[]⟩ {} [] ?_)
     obtain rfl:=oi h
     exact lN
   ·refine cf hb1 ?_
    refine aI (fz ⟨[],[]⟩ []) ?_
    refine aX ?_
    obtain rfl:=oi h
    exact lB
  ·clear hy
   cases y with
   |brk z=>
    unfold fE
    refine⟨_, .refl, ?_⟩
    refine sz tT ⟨[(4,(vB true))],[]⟩ {} [] ?_
    refine aR ?_
    obtain rfl:=oi h
    exact rl [(sB true)]
   |ret v=>
    obtain rfl:=oi h
    unfold fE
    intro e st hn ha hR
    cases e with
    |normal=>exact absurd rfl hn
    |exit id=>exact hR
    |goto l=>exact hR
    |ret=>exact hR
    |panic c=>exact hR
    |outgrown=>exact hR
def Dp  :(ah × State)→Exit→St→Prop:=
  fun r=>aW TT [.cell 0 26, .cell 1 29] (.iB [(.agg [(cI r.1.buses),(.own 0 true r.1.sources.length),(.own 1 true r.1.links.length),(.own 2 true r.1.racks.length)]),(.agg [(.own 3 true r.2.closed.length),(.own 4 true r.2.locked.length),(.own 5 true r.2.badLink.length),(.own 6 true r.2.on_.length),(.own 7 true r.2.badSource.length),(.own 8 true r.2.earthed.length),(.own 9 true r.2.badBus.length)])]) [(0,some (aF 60 5 Source.cell r.1.sources)),(1,some (aF 66 6 Link.cell r.1.links)),(2,some (aF 71 4 aJ.cell r.1.racks)),(3,some (aF 4 1 af r.2.closed)),(4,some (aF 4 1 af r.2.locked)),(5,some (aF 4 1 af r.2.badLink)),(6,some (aF 4 1 af r.2.on_)),(7,some (aF 4 1 af r.2.badSource)),(8,some (aF 4 1 af r.2.earthed)),(9,some (aF 4 1 af r.2.badBus)),(10,none),(11,none)]
abbrev ahv:Nat × Option Ob:=(21,some (.cells 26 [(cI 0),(.d nS),(.d nS),(.d nS)]))
abbrev ahF:Nat × Option Ob:=(23,some (aF 60 5 Source.cell [(⟨0,1,500,0,20⟩:Source)]))
abbrev aeo:List DV:=[(.int .i64 0),(.int .i64 1),(.int .i64 3),(.int .i64 400),(.int .i64 10),(aD (some true) 2 bP.cell [(⟨1000,400⟩:bP),(⟨10000,100⟩:bP)]),(.int .i64 1),(.int .i64 2),(.int .i64 3),(.int .i64 400),(.int .i64 10),(aD (some true) 2 bP.cell [(⟨1000,50⟩:bP)])]
abbrev aiV:Ob:=(aF 71 4 aJ.cell [(⟨(⟨2,(-1)⟩:bL),100,1⟩:aJ),(⟨(⟨1,2⟩:bL),100,0⟩:aJ)])
abbrev agx:Nat × Option Ob:=(27,some aiV)
abbrev aki:Ob:=(.cells 26 [(cI 3),(.own 23 true ([(⟨0,1,500,0,20⟩:Source)].length)),(.own 26 true ([(⟨0,1,3,400,10,[(⟨1000,400⟩:bP),(⟨10000,100⟩:bP)]⟩:Link),(⟨1,2,3,400,10,[(⟨1000,50⟩:bP)]⟩:Link)].length)),(.own 27 true ([(⟨(⟨2,(-1)⟩:bL),100,1⟩:aJ),(⟨(⟨1,2⟩:bL),100,0⟩:aJ)].length))])
abbrev ak1:Nat × Option Ob:=(28,some aki)
abbrev alA:Ob:=(aF 66 6 Link.cell [(⟨0,1,3,400,10,[(⟨1000,400⟩:bP),(⟨10000,100⟩:bP)]⟩:Link),(⟨1,2,3,400,10,[(⟨1000,50⟩:bP)]⟩:Link)])
abbrev ajG:Nat × Option Ob:=(26,some alA)
abbrev adV:Ob:=(aF 4 1 af (List.replicate 2 (false:Bool)))
abbrev aed:Ob:=(aF 4 1 af (List.replicate 3 (false:Bool)))
abbrev ain:List CV:=[(cI 3),(.own 0 true ([(⟨0,1,500,0,20⟩:Source)].length)),(.own 1 true ([(⟨0,1,3,400,10,[(⟨1000,400⟩:bP),(⟨10000,100⟩:bP)]⟩:Link),(⟨1,2,3,400,10,[(⟨1000,50⟩:bP)]⟩:Link)].length)),(.own 2 true ([(⟨(⟨2,(-1)⟩:bL),100,1⟩:aJ),(⟨(⟨1,2⟩:bL),100,0⟩:aJ)].length))]
abbrev aiy:List CV:=[(.own 3 true ([true,true].length)),(.own 4 true ((List.replicate 2 (false:Bool)).length)),(.own 5 true ((List.replicate 2 (false:Bool)).length)),(.own 6 true ([true].length)),(.own 7 true ((List.replicate 1 (false:Bool)).length)),(.own 8 true ((List.replicate 3 (false:Bool)).length)),(.own 9 true ((List.replicate 3 (false:Bool)).length))]
theorem CJ  {r:(ah × State)} (h:vE=some r):Fn Tryz.prog 21 [] [] (.iB [(.agg [(cI r.1.buses),(.own 0 true r.1.sources.length),(.own 1 true r.1.links.length),(.own 2 true r.1.racks.length)]),(.agg [(.own 3 true r.2.closed.length),(.own 4 true r.2.locked.length),(.own 5 true r.2.badLink.length),(.own 6 true r.2.on_.length),(.own 7 true r.2.badSource.length),(.own 8 true r.2.earthed.length),(.own 9 true r.2.badBus.length)])]) [(0,some (aF 60 5 Source.cell r.1.sources)),(1,some (aF 66 6 Link.cell r.1.links)),(2,some (aF 71 4 aJ.cell r.1.racks)),(3,some (aF 4 1 af r.2.closed)),(4,some (aF 4 1 af r.2.locked)),(5,some (aF 4 1 af r.2.badLink)),(6,some (aF 4 1 af r.2.on_)),(7,some (aF 4 1 af r.2.badSource)),(8,some (aF 4 1 af r.2.earthed)),(9,some (aF 4 1 af r.2.badBus)),(10,none),(11,none)]:=by
 refine fN tT Tryz.func21 rfl rfl fun B=> ?_
 show bG _ _ _ _ _ _ (Dp r) _
 unfold vE at h
 refine sz tT ⟨[(0,(vP 21 0)),(1,(vP 22 0))],[ahv,Nh]⟩ {fr:=[(0,21),(1,22)] } [] ?_
 refine si tT ⟨[(0,(vP 21 0)),(1,(vP 22 0)),(2,(vP 28 0))],[ahv,Nh,ahF,(26,some (.arr 66 6 [(⟨0,1,3,400,10,[(⟨1000,400⟩:bP),(⟨10000,100⟩:bP)]⟩:Link),(⟨1,2,3,400,10,[(⟨1000,50⟩:bP)]⟩:Link)].length (xL 6 aeo))),agx,ak1]⟩ [[(⟨0,1,500,0,20⟩:Source)].length=1,aT 1 5 (xL 5 [(.int .i64 0),(.int .i64 1),(.int .i64 500),(.int .i64 0),(.int .i64 20)]) (au Source.cell [(⟨0,1,500,0,20⟩:Source)]),[(⟨1000,400⟩:bP),(⟨10000,100⟩:bP)].length=2,aT 2 2 (xL 2 [(.int .i64 1000),(.int .i64 400),(.int .i64 10000),(.int .i64 100)]) (au bP.cell [(⟨1000,400⟩:bP),(⟨10000,100⟩:bP)]),[(⟨1000,50⟩:bP)].length=1,aT 1 2 (xL 2 [(.int .i64 1000),(.int .i64 50)]) (au bP.cell [(⟨1000,50⟩:bP)]),[(⟨0,1,3,400,10,[(⟨1000,400⟩:bP),(⟨10000,100⟩:bP)]⟩:Link),(⟨1,2,3,400,10,[(⟨1000,50⟩:bP)]⟩:Link)].length=2,aT 2 6 (xL 6 aeo) (xL 6 aeo),[(⟨(⟨2,(-1)⟩:bL),100,1⟩:aJ),(⟨(⟨1,2⟩:bL),100,0⟩:aJ)].length=2,aT 2 4 (xL 4 [(.int .i64 2),(.int .i64 (-1)),(.int .i64 100),(.int .i64 1),(.int .i64 1),(.int .i64 2),(.int .i64 100),(.int .i64 0)]) (au aJ.cell [(⟨(⟨2,(-1)⟩:bL),100,1⟩:aJ),(⟨(⟨1,2⟩:bL),100,0⟩:aJ)])] {an:=[(1, .arr [(⟨0,1,500,0,20⟩:Source)].length (au Source.cell [(⟨0,1,500,0,20⟩:Source)])),(4, .frz [(⟨1000,400⟩:bP),(⟨10000,100⟩:bP)].length (au bP.cell [(⟨1000,400⟩:bP),(⟨10000,100⟩:bP)])),(7, .frz [(⟨1000,50⟩:bP)].length (au bP.cell [(⟨1000,50⟩:bP)])),(9, .arr [(⟨0,1,3,400,10,[(⟨1000,400⟩:bP),(⟨10000,100⟩:bP)]⟩:Link),(⟨1,2,3,400,10,[(⟨1000,50⟩:bP)]⟩:Link)].length (xL 6 aeo)),(14, .arr [(⟨(⟨2,(-1)⟩:bL),100,1⟩:aJ),(⟨(⟨1,2⟩:bL),100,0⟩:aJ)].length (au aJ.cell [(⟨(⟨2,(-1)⟩:bL),100,1⟩:aJ),(⟨(⟨1,2⟩:bL),100,0⟩:aJ)]))],fr:=[(1,23),(9,26),(14,27),(16,28)] } [] ⟨(rfl),((by intro i hi j hj;match i,j,hi,hj with|0,0,_,_=>rfl|0,1,_,_=>rfl|0,2,_,_=>rfl|0,3,_,_=>rfl|0,4,_,_=>rfl)),(rfl),((by intro i hi j hj;match i,j,hi,hj with|0,0,_,_=>rfl|0,1,_,_=>rfl|1,0,_,_=>rfl|1,1,_,_=>rfl)),(rfl),((by intro i hi j hj;match i,j,hi,hj with|0,0,_,_=>rfl|0,1,_,_=>rfl)),(rfl),(nQ _ _ _),(rfl),((by intro i hi j hj;match i,j,hi,hj with|0,0,_,_=>rfl|0,1,_,_=>rfl|0,2,_,_=>rfl|0,3,_,_=>rfl|1,0,_,_=>rfl|1,1,_,_=>rfl|1,2,_,_=>rfl|1,3,_,_=>rfl)),trivial⟩ (bJ.le (st':=⟨[(0,(vP 21 0)),(1,(vP 22 0)),(2,(vP 28 0))],[ahv,Nh,ahF,ajG,agx,ak1]⟩) ⟨⟨tR,tR,tR,trivial⟩,(hN 3 ⟨rfl,Xo (by intro i hi j hj;match i,j,hi,hj with|0,0,_,_=>exact .refl _|0,1,_,_=>exact .refl _|0,2,_,_=>exact .refl _|0,3,_,_=>exact .refl _|0,4,_,_=>exact .refl _|0,5,_,_=>exact dR.nI|1,0,_,_=>exact .refl _|1,1,_,_=>exact .refl _|1,2,_,_=>exact .refl _|1,3,_,_=>exact .refl _|1,4,_,_=>exact .refl _|1,5,_,_=>exact dR.nI),(.refl _)⟩)⟩) ?_
 refine aQ (aO h fun⟨a1,a2,a3,a4,a5,a6,a7,a8,a9⟩ h=> ?_)
 refine dg tT mX ⟨[(0,(vP 21 0)),(1,(vP 22 0))],[(21,some aki),(22,some (.cells 29 [(.own 29 true ([true,true].length)),(.own 30 true ((List.replicate 2 (false:Bool)).length)),(.own 31 true ((List.replicate 2 (false:Bool)).length)),(.own 32 true ([true].length)),(.own 33 true ((List.replicate 1 (false:Bool)).length)),(.own 34 true ((List.replicate 3 (false:Bool)).length)),(.own 35 true ((List.replicate 3 (false:Bool)).length))])),ahF,ajG,agx,(29,some (aF 4 1 af [true,true])),(30,some adV),(31,some adV),(32,some (aF 4 1 af [true])),(33,some (aF 4 1 af (List.replicate 1 (false:Bool)))),(34,some aed),(35,some aed)]⟩ [[true,true].length=2,aT 2 1 (xL 1 [(.bool true),(.bool true)]) (au af [true,true]),_,(2:Int)=2,_,_,(List.replicate 2 (false:Bool)).length=2,aT 2 1 (fun _ j=>[(.bool false)].getD j .nilp) (au af (List.replicate 2 (false:Bool))),_,(2:Int)=2,_,_,(List.replicate 2 (false:Bool)).length=2,aT 2 1 (fun _ j=>[(.bool false)].getD j .nilp) (au af (List.replicate 2 (false:Bool))),[true].length=1,aT 1 1 (xL 1 [(.bool true)]) (au af [true]),_,(1:Int)=1,_,_,(List.replicate 1 (false:Bool)).length=1,aT 1 1 (fun _ j=>[(.bool false)].getD j .nilp) (au af (List.replicate 1 (false:Bool))),_,(3:Int)=3,_,_,(List.replicate 3 (false:Bool)).length=3,aT 3 1 (fun _ j=>[(.bool false)].getD j .nilp) (au af (List.replicate 3 (false:Bool))),_,(3:Int)=3,_,_,(List.replicate 3 (false:Bool)).length=3,aT 3 1 (fun _ j=>[(.bool false)].getD j .nilp) (au af (List.replicate 3 (false:Bool)))] {an:=[(1, .arr [true,true].length (au af [true,true])),(2, .arr (List.replicate 2 (false:Bool)).length (au af (List.replicate 2 (false:Bool)))),(3, .arr (List.replicate 2 (false:Bool)).length (au af (List.replicate 2 (false:Bool)))),(4, .arr [true].length (au af [true])),(5, .arr (List.replicate 1 (false:Bool)).length (au af (List.replicate 1 (false:Bool)))),(6, .arr (List.replicate 3 (false:Bool)).length (au af (List.replicate 3 (false:Bool)))),(7, .arr (List.replicate 3 (false:Bool)).length (au af (List.replicate 3 (false:Bool))))],fr:=[(1,29),(2,30),(3,31),(4,32),(5,33),(6,34),(7,35)] } [] ⟨(rfl),((by intro i hi j hj;match i,j,hi,hj with|0,0,_,_=>rfl|1,0,_,_=>rfl)),a1,rfl,a2,a3,(List.length_replicate),(iZ _ _ _ _ _ (fun j hj=>(match j,hj with|0,_=>rfl))),a1,rfl,a2,a3,(List.length_replicate),(iZ _ _ _ _ _ (fun j hj=>(match j,hj with|0,_=>rfl))),(rfl),((by intro i hi j hj;match i,j,hi,hj with|0,0,_,_=>rfl)),a4,rfl,a5,a6,(List.length_replicate),(iZ _ _ _ _ _ (fun j hj=>(match j,hj with|0,_=>rfl))),a7,rfl,a8,a9,(List.length_replicate),(iZ _ _ _ _ _ (fun j hj=>(match j,hj with|0,_=>rfl))),a7,rfl,a8,a9,(List.length_replicate),(iZ _ _ _ _ _ (fun j hj=>(match j,hj with|0,_=>rfl))),trivial⟩ ?_
 refine aI (bJ.fin (st':=⟨[(0,(vP 10 0)),(1,(vP 11 0))],[(0,some (aF 60 5 Source.cell [(⟨0,1,500,0,20⟩:Source)])),(1,some alA),(2,some aiV),(3,some (aF 4 1 af [true,true])),(4,some adV),(5,some adV),(6,some (aF 4 1 af [true])),(7,some (aF 4 1 af (List.replicate 1 (false:Bool)))),(8,some aed),(9,some aed),(10,some (.cells 26 ain)),(11,some (.cells 29 aiy))]⟩) (cs:=[]) ⟨[],[(23,0),(26,1),(27,2),(29,3),(30,4),(31,5),(32,6),(33,7),(34,8),(35,9),(21,10),(22,11)]⟩ [0,1] (by kernel_rfl) trivial) ?_
 refine aR ?_
 obtain rfl:=oi h
 exact rh [(.agg ain),(.agg aiy)] (.refl _) (hN 10 ⟨rfl,trivial,⟨rfl,trivial,trivial⟩⟩)
def rH  :((List Int) × Int)→Exit→St→Prop:=
  fun r=>aW TT [.tmp 6, .tmp 7] (.iB [(.one (.own 0 false r.1.length)),(sI r.2)]) [(0,some (aF 3 1 (aC .i64) r.1))]
section
variable (u1:((List ax) × Int)) (u2:((List ax) × Int)) (u0:(List Int)) (p:ah)
abbrev uj:Nat × TV:=(12,(vD (aD none 2 ax.cell u1.1)))
abbrev Ip:Nat × TV:=(14,(vD (aD none 2 ax.cell u2.1)))
abbrev Jw:Nat × TV:=(16,(vD (.fn 47 0 (wQ []))))
abbrev Vy:Nat × TV:=(17,(vO 37 false u0.length))
abbrev Lv:Nat × TV:=(57,(vI (p.racks.length:Int)))
abbrev Sl:List (Nat × Option Ob):=[(37,some (zP u0))]
end
def xS (p:ah) (u1:((List ax) × Int)) (u2:((List ax) × Int)):((List Int) × Int)→St:=
  fun zz=>match zz with|(u0,u3)=> ⟨[(uj u1),(Ip u2),Jw,(Vy u0),(Lv p),(58,(vI u3))],(Sl u0)⟩
def xY  :(List Int)→St:=
  fun u0=> ⟨[(Vy u0)],(Sl u0)⟩
def Gg (p:ah) (u0:((List ax) × Int)) (u1:((List ax) × Int)):(aM ((List Int) × Int) (Ex (List Int) ((List Int) × Int)))→Exit→St→Prop:=
  LQ 1 [] (xS p u0 u1) xY rH
section
variable (u4:(State × Int))
abbrev akc:Nat × TV:=(10,(ald u4))
end
theorem xk (p:ah) (s_:State) (u5:Int) {r:((List Int) × Int)} (h:kH p s_ u5=some r):Fn Tryz.prog 16 (Kj p s_ u5) [] (.iB [(.one (.own 0 false r.1.length)),(sI r.2)]) [(0,some (aF 3 1 (aC .i64) r.1))]:=by
 refine fN tT Tryz.func16 rfl rfl fun B=> ?_
 show bG _ _ _ _ _ _ (rH r) _
 unfold kH at h
 refine sz tT (Y5 p s_ u5) {fr:=[(0,21),(1,22)] } [21,22] ?_
 refine aQ (bE h fun r_ hr_ h=> ?_)
 have q0:=rk [(0,23),(1,24),(2,25),(3,26),(4,27),(5,28),(6,29),(7,30),(8,31)] (jv p s_ u5 hr_)
 refine ri tT ⟨[(2,(vI u5)),(bB p),(fH s_),(8,(vP 32 0)),(9,(vI r_.2))],[(32,some (af9 r_))]⟩ [_,r_.1.events.length=r_.1.events.length,r_.1.state.closed.length=r_.1.state.closed.length,r_.1.state.locked.length=r_.1.state.locked.length,r_.1.state.badLink.length=r_.1.state.badLink.length,r_.1.state.on_.length=r_.1.state.on_.length,r_.1.state.badSource.length=r_.1.state.badSource.length,r_.1.state.earthed.length=r_.1.state.earthed.length,r_.1.state.badBus.length=r_.1.state.badBus.length] {an:=[(3,cA q0 [])],fr:=[(7,32)] } [23,24,25,26,27,28,29,30] ⟨q0,rfl,rfl,rfl,rfl,rfl,rfl,rfl,rfl,trivial⟩ (fz ⟨[(2,(vI u5)),(bB p),(fH s_),(aad r_),(9,(vI r_.2))],[]⟩ [32]) ?_
 refine aQ (aB (sz tT ⟨[(2,(vI u5)),(bB p),(fH s_),(aad r_),(9,(vI r_.2)),(26,(vB (!decide (r_.2=0))))],[]⟩ {} [] ?_))
 refine bI h (fun hb3 h=> ?_) (fun hb3 h=> ?_)
 ·refine ct hb3 ?_
  refine sz tT ⟨[(6,(vD nS)),(7,(vI r_.2))],[]⟩ {} [] ?_
  refine aI (.trans (bJ.Er (t:=6) (b:=33) (esz0:=0) (el0:=fun _ _=> .nilp) (E:=3) (esz:=1) (el:=au (aC .i64) ([]:List Int)) (by kernel_rfl) (by kernel_rfl)) (.trans (bJ.fin (st':=⟨[(6,(vO 0 false 0)),(7,(vI r_.2))],agC⟩) (cs:=[]) ⟨[],[(33,0)]⟩ [6,7] (by kernel_rfl) trivial) (bJ.le (st':=⟨[(6,(vO 0 false (([]:List Int).length))),(7,(vI r_.2))],agA⟩) ⟨⟨⟨_,rfl,fe.v (jB.one cW)⟩,tR,trivial⟩,⟨rfl,oW,trivial⟩⟩))) ?_
  refine aR ?_
  obtain rfl:=oi h
  exact rl [(.one (.own 0 false (([]:List Int).length))),(sI r_.2)]
 ·refine cf hb3 ?_
  refine sz tT ⟨[(2,(vI u5)),(bB p),(fH s_),(aad r_),(30,(vB (!r_.1.cleared)))],[]⟩ {} [] ?_
  refine bI h (fun hb2 h=> ?_) (fun hb2 h=> ?_)
  ·refine ct hb2 ?_
   refine sz tT ⟨[(6,(vD nS)),(7,(vI 4))],[]⟩ {} [] ?_
   refine aI (.trans (bJ.Er (t:=6) (b:=34) (esz0:=0) (el0:=fun _ _=> .nilp) (E:=3) (esz:=1) (el:=au (aC .i64) ([]:List Int)) (by kernel_rfl) (by kernel_rfl)) (.trans (bJ.fin (st':=⟨[(6,(vO 0 false 0)),(7,(vI 4))],agC⟩) (cs:=[]) ⟨[],[(34,0)]⟩ [6,7] (by kernel_rfl) trivial) (bJ.le (st':=⟨[(6,(vO 0 false (([]:List Int).length))),(7,(vI 4))],agA⟩) ⟨⟨⟨_,rfl,fe.v (jB.one cW)⟩,tR,trivial⟩,⟨rfl,oW,trivial⟩⟩))) ?_
   refine aR ?_
   obtain rfl:=oi h
   exact rl [(.one (.own 0 false (([]:List Int).length))),(sI 4)]
  ·refine cf hb2 ?_
   refine aP (aQ (bE h fun u4 hr_1 h=> ?_))
   have q0:=Jg p r_.1.state (⟨1,u5⟩:Part) hr_1
   refine rg tT ⟨[(bB p),(fH s_),(akc u4)],[]⟩ [_] {an:=[(5,cA q0 [])],fr:=[(9,35)] } [35] ⟨q0,trivial⟩ ?_
   refine aQ (bE h fun u3 hr_2 h=> ?_)
   have q0:=Dl p s_ hr_2
   refine rg tT ⟨[(bB p),(akc u4),(uj u3)],[]⟩ [_] {an:=[(2,cA q0 [])] } [] ⟨q0,trivial⟩ ?_
   refine aQ (bE h fun u2 hr_3 h=> ?_)
   have q0:=Dl p u4.1 hr_3
   refine rg tT ⟨[(bB p),(uj u3),(Ip u2)],[]⟩ [_] {an:=[(2,cA q0 [])] } [] ⟨q0,trivial⟩ ?_
   refine sz tT ⟨[(bB p),(uj u3),(Ip u2),Jw],[]⟩ {} [] ?_
   refine sz tT ⟨[(bB p),(uj u3),(Ip u2),Jw,(17,(vD nS))],[]⟩ {} [] ?_
   refine aQ (sz tT ⟨[(uj u3),(Ip u2),Jw,(17,(vD nS)),(Lv p),(58,(vI 0))],[]⟩ {} [] ?_)
   refine bE h fun y hy h=> ?_
   refine aI (.trans (bJ.Er (t:=17) (b:=44) (esz0:=0) (el0:=fun _ _=> .nilp) (E:=3) (esz:=1) (el:=au (aC .i64) ([]:List Int)) (by kernel_rfl) (by kernel_rfl)) (.trans (bJ.fin (st':=⟨[(uj u3),(Ip u2),Jw,(17,(vO 37 false 0)),(Lv p),(58,(vI 0))],[(37,some (.arr 3 1 0 (au (aC .i64) ([]:List Int))))]⟩) (cs:=[]) ⟨[],[(44,37)]⟩ [12,14,16,17,57,58] (by kernel_rfl) trivial) (bJ.le (st':=⟨[(uj u3),(Ip u2),Jw,(17,(vO 37 false (([]:List Int).length))),(Lv p),(58,(vI 0))],[(37,some adP)]⟩) ⟨⟨tR,tR,tR,⟨_,rfl,fe.v (jB.one cW)⟩,tR,tR,trivial⟩,⟨rfl,oW,trivial⟩⟩))) ?_
   refine aL [] (xS p u3 u2) xY rH hy (fun s f h=> ?_) ?_
   ·clear hy
    show bG _ _ _ _ _ _ ((Gg p u3 u2) f) _
    unfold jg at h
    obtain⟨u1,u0⟩:=s
    refine sz tT ⟨[(uj u3),(Ip u2),Jw,(Vy u1),(Lv p),(58,(vI u0)),(59,(k49 p u0))],(Sl u1)⟩ {} [] ?_
    refine aQ ?_
    refine bI h (fun hb1 h=> ?_) (fun hb1 h=> ?_)
    ·refine ct hb1 ?_
     refine aP (aQ (aB (sz tT ⟨[(uj u3),(Ip u2),Jw,(Vy u1),(18,(vI u0)),(Lv p),(58,(vI u0))],(Sl u1)⟩ {} [] ?_)))
     refine aQ (bE h fun u6 hr_4 h=> ?_)
     refine bE h fun u8 hr_5 h=> ?_
     refine aO h fun⟨a1,a2⟩ h=> ?_
     have q1:=zk (at' u3.1 u0.toNat) hr_4
     refine rg tT ⟨[(uj u3),(Ip u2),Jw,(Vy u1),(18,(vI u0)),(Lv p),(58,(vI u0)),(75,(vB (bif u6 then(!u8)else false)))],(Sl u1)⟩ (_::_::(eqs u6 4 ((gP (ic [(6,u6)]) [(6,true)]→All [(0:Int)≤u0∧u0<(u2.1.length:Int)])::(eqs u6 2 ((gP (ic [(6,u6)]) [(6,true)]→All [Fn Tryz.prog 47 [(.agg [(cB ((at' u2.1 u0.toNat).e0)),(cB ((at' u2.1 u0.toNat).e1))])] [] (vB u8) []])::(eqs u6 2 [])))))) {yb:=[(6,u6)],an:=[(5,cA q1 []),(12, .call [] (vB u8) [])] } [] ⟨a1,q1,(ae ⟨(fun hg=> ⟨(a2 (aU hg)),trivial⟩),(ae ⟨(fun hg=> ⟨(zk (at' u2.1 u0.toNat) (fD hr_5 (aU hg))),trivial⟩),(ae trivial)⟩)⟩)⟩ ?_
     refine bI h (fun hb h=> ?_) (fun hb h=> ?_)
     ·refine ct hb ?_
      refine aO h fun⟨a1,a2⟩ h=> ?_
      refine rg tT ⟨[(uj u3),(Ip u2),Jw,(17,(vO 43 false ((u1++[u0]).length))),(Lv p),(58,(vI u0))],[(43,some (SC u1 u0))]⟩ [[u0].length=1,aT 1 1 (xL 1 [(.int .i64 u0)]) (au (aC .i64) [u0]),u1.length=u1.length,_,_,(u1++[u0]).length=u1.length+[u0].length,aT (u1.length+[u0].length) 1 (adT u0 u1) (Tj u0 u1)] {an:=[(2, .arr [u0].length (au (aC .i64) [u0])),(3, .arr (u1++[u0]).length (Tj u0 u1))],fr:=[(2,42),(3,43)] } [] ⟨(rfl),((by intro i hi j hj;match i,j,hi,hj with|0,0,_,_=>rfl)),rfl,a1,a2,(List.length_append),(dA _ _ _ _),trivial⟩ ?_
      refine ri tT ⟨[(uj u3),(Ip u2),Jw,(17,(vO 43 false ((u1++[u0]).length))),(Lv p),(58,(Am u0))],[(43,some (SC u1 u0))]⟩ [] {} [] trivial (bJ.fin (st':=⟨[(uj u3),(Ip u2),Jw,(17,(vO 37 false ((u1++[u0]).length))),(Lv p),(58,(Am u0))],[(37,some (SC u1 u0))]⟩) (cs:=[]) ⟨[],[(43,37)]⟩ [12,14,16,17,57,58] (by kernel_rfl) trivial) ?_
      obtain rfl:=oi h
      exact lN
     ·refine cf hb ?_
      refine aP (rz tT ⟨[(uj u3),(Ip u2),Jw,(Vy u1),(Lv p),(58,(Am u0))],(Sl u1)⟩ {} [] ?_)
      obtain rfl:=oi h
      exact lN
    ·refine cf hb1 ?_
     refine aI (fz ⟨[(Vy u1)],(Sl u1)⟩ []) ?_
     refine aX ?_
     obtain rfl:=oi h
     exact lB
   ·clear hy
    cases y with
    |brk z=>
     obtain⟨u7,rfl⟩: ∃q,q=z:=⟨_,rfl⟩
     unfold fE
     refine⟨_, .refl, ?_⟩
     refine sz tT ⟨[(6,(vO 37 false u7.length)),(7,(vI 0))],(Sl u7)⟩ {} [] ?_
     refine aI (bJ.fin (st':=⟨[(6,(vO 0 false u7.length)),(7,(vI 0))],[(0,some (zP u7))]⟩) (cs:=[]) ⟨[],[(37,0)]⟩ [6,7] (by kernel_rfl) trivial) ?_
     refine aR ?_
     obtain rfl:=oi h
     exact rl [(.one (.own 0 false u7.length)),(sI 0)]
    |ret v=>
     obtain rfl:=oi h
     unfold fE
     intro e st hn ha hR
     cases e with
     |normal=>exact absurd rfl hn
     |exit id=>exact hR
     |goto l=>exact hR
     |ret=>exact hR
     |panic c=>exact hR
     |outgrown=>exact hR
def K7  :Bool→Exit→St→Prop:=
  fun r=>aW TT [.tmp 0] (vB r) []
section
variable (r_:(ah × State)) (u0:(bg × Int)) (u3:((List Int) × Int)) (u1:(Bool × Int)) (u2:(bg × Int)) (u4:(Bool × Int))
abbrev Yh:Nat × Option Ob:=(36,some (aF 60 5 Source.cell r_.1.sources))
abbrev Yx:Nat × Option Ob:=(37,some (aF 66 6 Link.cell r_.1.links))
abbrev Yf:Nat × Option Ob:=(38,some (aF 71 4 aJ.cell r_.1.racks))
abbrev akn:List CV:=[(cI r_.1.buses),(.own 36 true r_.1.sources.length),(.own 37 true r_.1.links.length),(.own 38 true r_.1.racks.length)]
abbrev ahX:Nat × Option Ob:=(48,some (.cells 26 (akn r_)))
abbrev adz:List CV:=[(.d (aD (some true) 1 af r_.2.closed)),(.d (aD (some true) 1 af r_.2.locked)),(.d (aD (some true) 1 af r_.2.badLink)),(.d (aD (some true) 1 af r_.2.on_)),(.d (aD (some true) 1 af r_.2.badSource)),(.d (aD (some true) 1 af r_.2.earthed)),(.d (aD (some true) 1 af r_.2.badBus))]
abbrev KE:Nat × TV:=(2,(vD (oL [(aD (some true) 1 af r_.2.closed),(aD (some true) 1 af r_.2.locked),(aD (some true) 1 af r_.2.badLink),(aD (some true) 1 af r_.2.on_),(aD (some true) 1 af r_.2.badSource),(aD (some true) 1 af r_.2.earthed),(aD (some true) 1 af r_.2.badBus)] 0)))
abbrev abA:Nat × Option Ob:=(50,some (aF 87 2 Event.cell u0.1.events))
abbrev aaW:Nat × Option Ob:=(51,some (aF 4 1 af u0.1.state.closed))
abbrev aal:Nat × Option Ob:=(52,some (aF 4 1 af u0.1.state.locked))
abbrev aa7:Nat × Option Ob:=(53,some (aF 4 1 af u0.1.state.badLink))
abbrev aas:Nat × Option Ob:=(54,some (aF 4 1 af u0.1.state.on_))
abbrev aav:Nat × Option Ob:=(55,some (aF 4 1 af u0.1.state.badSource))
abbrev aaQ:Nat × Option Ob:=(56,some (aF 4 1 af u0.1.state.earthed))
abbrev abB:Nat × Option Ob:=(57,some (aF 4 1 af u0.1.state.badBus))
abbrev akU:List CV:=[(.own 50 false u0.1.events.length),(cB u0.1.cleared),(cI u0.1.millis),(cI u0.1.energy),(.own 51 false u0.1.state.closed.length),(.own 52 false u0.1.state.locked.length),(.own 53 false u0.1.state.badLink.length),(.own 54 false u0.1.state.on_.length),(.own 55 false u0.1.state.badSource.length),(.own 56 false u0.1.state.earthed.length),(.own 57 false u0.1.state.badBus.length)]
abbrev adA:Nat × Option Ob:=(59,some (.cells 38 (akU u0)))
abbrev Wv:List (Nat × Option Ob):=[(Yh r_),(Yx r_),(Yf r_),(ahX r_),(abA u0),(aaW u0),(aal u0),(aa7 u0),(aas u0),(aav u0),(aaQ u0),(abB u0),(adA u0)]
abbrev ahB:List SV:=[(.agg (akn r_)),(.agg (adz r_)),(sI 2)]
abbrev ade:List (Nat × Option Ob):=[(Yh r_),(Yx r_),(Yf r_)]
abbrev ak6:TV:=(.iB [(.agg (akU u0)),(sI u0.2)])
abbrev ami:List (Nat × Option Ob):=[(Yh r_),(Yx r_),(Yf r_),(abA u0),(aaW u0),(aal u0),(aa7 u0),(aas u0),(aav u0),(aaQ u0),(abB u0),(58,none)]
abbrev alI:List CV:=[(.d (aD none 1 af r_.2.closed)),(.d (aD none 1 af r_.2.locked)),(.d (aD none 1 af r_.2.badLink)),(.d (aD none 1 af r_.2.on_)),(.d (aD none 1 af r_.2.badSource)),(.d (aD none 1 af r_.2.earthed)),(.d (aD none 1 af r_.2.badBus))]
abbrev alj:List SV:=[(.agg [(cI r_.1.buses),(.d (aD none 5 Source.cell r_.1.sources)),(.d (aD none 6 Link.cell r_.1.links)),(.d (aD none 4 aJ.cell r_.1.racks))]),(.agg (alI r_)),(sI 2)]
abbrev acP:DV:=(aD (some true) 5 Source.cell r_.1.sources)
abbrev ac9:DV:=(aD (some true) 4 aJ.cell r_.1.racks)
abbrev af3:List SV:=[(.agg [(cI r_.1.buses),(.d (acP r_)),(.d (aD (some true) 6 Link.cell r_.1.links)),(.d (ac9 r_))]),(.agg (adz r_)),(sI 2)]
abbrev Ya:TV:=(vD (aD none 1 (aC .i64) u3.1))
abbrev ai4:List (Nat × Option Ob):=[(Yh r_),(Yx r_),(Yf r_),(60,some (aF 3 1 (aC .i64) u3.1))]
abbrev WE:=(bif (!decide (u0.2=0))then true else(!decide (u1.2=0)))
abbrev Vo:=(bif (WE u0 u1)then true else(!decide (u3.2=0)))
abbrev Vr:=(bif (Vo u0 u3 u1)then true else(!u1.1))
abbrev Nk:=(bif (Vr u0 u3 u1)then true else(!decide ((u0.1.events.length:Int)=1)))
abbrev VD:=(bif (Nk u0 u3 u1)then true else(!((decide (((at' u0.1.events 0).millis)=50)) && ((decide (((at' u0.1.events 0).link)=1)) && true))))
abbrev VY:=(bif (VD u0 u3 u1)then true else(!u0.1.cleared))
abbrev KA:=(bif (VY u0 u3 u1)then true else(!decide (u0.1.energy=5000000)))
abbrev Yb:=(ic [(2,(!decide (u0.2=0))),(6,(WE u0 u1)),(10,(Vo u0 u3 u1)),(14,(Vr u0 u3 u1)),(20,(Nk u0 u3 u1)),(28,(VD u0 u3 u1)),(33,(VY u0 u3 u1)),(38,true)])
abbrev ajz:=((Nk u0 u3 u1)=(Nk u0 u3 u1))
abbrev abE:=(ic [(2,(!decide (u0.2=0))),(6,(WE u0 u1)),(10,(Vo u0 u3 u1)),(14,(Vr u0 u3 u1)),(20,(Nk u0 u3 u1)),(28,(VD u0 u3 u1)),(33,(VY u0 u3 u1)),(38,false)])
abbrev akV:List (Nat × TV):=[(1,(vP 48 0)),(KE r_),(3,(vP 59 0))]
abbrev ad2:=(lH (au Link.cell r_.1.links) 1 5 [nS])
abbrev akf:=(⟨(at' r_.1.links 1).a,(at' r_.1.links 1).b,(at' r_.1.links 1).kind,(at' r_.1.links 1).most,(at' r_.1.links 1).bK,([]:List bP)⟩:Link)
abbrev agS:=(r_.1.links.set 1 (akf r_))
abbrev akK:DV:=(aD (some true) 6 Link.cell (agS r_))
abbrev ai3:List CV:=[(cI r_.1.buses),(.d (acP r_)),(.d (akK r_)),(.d (ac9 r_))]
abbrev ahH:Nat × TV:=(1,(vD (oL [(.int .i64 r_.1.buses),(acP r_),(akK r_),(ac9 r_)] 0)))
abbrev amP:List SV:=[(.agg (ai3 r_)),(.agg (adz r_)),(sI 2)]
abbrev alo:TV:=(.iB [(.agg [(.own 62 false u2.1.events.length),(cB u2.1.cleared),(cI u2.1.millis),(cI u2.1.energy),(.own 63 false u2.1.state.closed.length),(.own 64 false u2.1.state.locked.length),(.own 65 false u2.1.state.badLink.length),(.own 66 false u2.1.state.on_.length),(.own 67 false u2.1.state.badSource.length),(.own 68 false u2.1.state.earthed.length),(.own 69 false u2.1.state.badBus.length)]),(sI u2.2)])
abbrev alV:List (Nat × Option Ob):=[(62,some (aF 87 2 Event.cell u2.1.events)),(63,some (aF 4 1 af u2.1.state.closed)),(64,some (aF 4 1 af u2.1.state.locked)),(65,some (aF 4 1 af u2.1.state.badLink)),(66,some (aF 4 1 af u2.1.state.on_)),(67,some (aF 4 1 af u2.1.state.badSource)),(68,some (aF 4 1 af u2.1.state.earthed)),(69,some (aF 4 1 af u2.1.state.badBus)),(70,none)]
abbrev al7:List SV:=[(.agg [(cI r_.1.buses),(.d (aD none 5 Source.cell r_.1.sources)),(.d (aD none 6 Link.cell (agS r_))),(.d (aD none 4 aJ.cell r_.1.racks))]),(.agg (alI r_)),(sI 2)]
abbrev aiv:=(⟨r_.1.buses,r_.1.sources,(agS r_),r_.1.racks⟩:ah)
abbrev amo:Nat × TV:=(3,(akz u2))
abbrev acF:=(bif (decide (u2.2=0))then(decide (u4.2=0))else false)
abbrev aew:=(bif (acF u2 u4)then(!u4.1)else false)
abbrev aeE:=(bif (aew u2 u4)then u2.1.cleared else false)
abbrev acf:=(bif (aeE u2 u4)then(decide ((u2.1.events.length:Int)=1))else false)
abbrev aeD:=(bif (acf u2 u4)then((decide (((at' u2.1.events 0).millis)=100)) && ((decide (((at' u2.1.events 0).link)=0)) && true))else false)
abbrev aib:=(bif (aeD u2 u4)then(decide (u2.1.millis=100))else false)
end
theorem Bq  {r:Bool} (h:qa=some r):Fn Tryz.prog 7 [] [] (vB r) []:=by
 refine fN tT Tryz.func7 rfl rfl fun B=> ?_
 show bG _ _ _ _ _ _ (K7 r) _
 unfold qa at h
 refine sz tT ⟨[],[]⟩ {} [] ?_
 refine aQ (bE h fun r_ hr_ h=> ?_)
 have q0:=rk [(0,36),(1,37),(2,38),(3,39),(4,40),(5,41),(6,42),(7,43),(8,44),(9,45),(10,46),(11,47)] (CJ hr_)
 refine ri tT ⟨[(1,(vP 48 0)),(2,(vP 49 0))],[(Yh r_),(Yx r_),(Yf r_),(ahX r_),(49,some (.cells 29 (adz r_)))]⟩ [_,r_.2.closed.length=r_.2.closed.length,r_.2.locked.length=r_.2.locked.length,r_.2.badLink.length=r_.2.badLink.length,r_.2.on_.length=r_.2.on_.length,r_.2.badSource.length=r_.2.badSource.length,r_.2.earthed.length=r_.2.earthed.length,r_.2.badBus.length=r_.2.badBus.length] {an:=[(0,cA q0 [])],fr:=[(4,48),(5,49)] } [39,40,41,42,43,44,45] ⟨q0,rfl,rfl,rfl,rfl,rfl,rfl,rfl,trivial⟩ (fz ⟨[(1,(vP 48 0)),(KE r_)],[(Yh r_),(Yx r_),(Yf r_),(ahX r_)]⟩ [49]) ?_
 refine aQ (bE h fun u0 hr_1 h=> ?_)
 refine rg tT ⟨[(1,(vP 48 0)),(KE r_),(3,(vP 59 0)),(4,(vI u0.2))],(Wv r_ u0)⟩ [Fn Tryz.prog 11 (ahB r_) (ade r_) (ak6 u0) (ami r_ u0)] {an:=[(2, .call [36,37,38] (ak6 u0) (ami r_ u0))],fr:=[(6,59)] } [] ⟨(Fn.aaf (frz:=[36,37,38]) (p:=[r_.1.sources.length=r_.1.sources.length,r_.1.links.length=r_.1.links.length,r_.1.racks.length=r_.1.racks.length]) (Fn.leH (args:=(alj r_)) (args':=(af3 r_)) (hin:=[]) (rK [(0,50),(1,51),(2,52),(3,53),(4,54),(5,55),(6,56),(7,57),(8,58)] (jv r_.1 r_.2 2 hr_1)) ⟨jB.agg ⟨bH.refl _,bH.d dR.nI,bH.d dR.nI,bH.d dR.nI,trivial⟩,jB.agg ⟨bH.d dR.nI,bH.d dR.nI,bH.d dR.nI,bH.d dR.nI,bH.d dR.nI,bH.d dR.nI,bH.d dR.nI,trivial⟩,jB.refl _,trivial⟩ trivial) (by kernel_rfl) ⟨rfl,rfl,rfl,trivial⟩ (by kernel_rfl) ⟨(fun _ j=>match j with|0=>rfl|1=>rfl|_+2=>rfl),⟨(fun _ _=>rfl),⟨(fun _ _=>rfl),⟨(fun _ _=>rfl),⟨(fun _ _=>rfl),⟨(fun _ _=>rfl),⟨(fun _ _=>rfl),⟨(fun _ _=>rfl),trivial⟩⟩⟩⟩⟩⟩⟩⟩ (by kernel_rfl)),trivial⟩ ?_
 refine aQ (bE h fun u1 hr_2 h=> ?_)
 refine rg tT ⟨[(1,(vP 48 0)),(KE r_),(3,(vP 59 0)),(4,(vI u0.2)),(5,(vB u1.1)),(6,(vI u1.2))],(Wv r_ u0)⟩ [Fn Tryz.prog 14 (ahB r_) (ade r_) (.iB [(sB u1.1),(sI u1.2)]) (ade r_)] {an:=[(2, .callR [36,37,38] (.iB [(sB u1.1),(sI u1.2)]))] } [] ⟨(Fn.DK (frz:=[36,37,38]) (p:=[r_.1.sources.length=r_.1.sources.length,r_.1.links.length=r_.1.links.length,r_.1.racks.length=r_.1.racks.length]) (Fn.le (args':=(af3 r_)) (nP r_.1 r_.2 2 hr_2) ⟨jB.agg ⟨bH.refl _,bH.d dR.nI,bH.d dR.nI,bH.d dR.nI,trivial⟩,jB.agg ⟨bH.d dR.nI,bH.d dR.nI,bH.d dR.nI,bH.d dR.nI,bH.d dR.nI,bH.d dR.nI,bH.d dR.nI,trivial⟩,jB.refl _,trivial⟩) (by kernel_rfl) ⟨rfl,rfl,rfl,trivial⟩ rfl),trivial⟩ ?_
 refine aQ (bE h fun u3 hr_3 h=> ?_)
 refine rg tT ⟨[(1,(vP 48 0)),(KE r_),(3,(vP 59 0)),(4,(vI u0.2)),(5,(vB u1.1)),(6,(vI u1.2)),(7,(Ya u3)),(8,(vI u3.2))],(Wv r_ u0)⟩ [Fn Tryz.prog 16 (ahB r_) (ade r_) (.iB [(.one (.own 60 false u3.1.length)),(sI u3.2)]) (ai4 r_ u3),u3.1.length=u3.1.length] {an:=[(2, .call [36,37,38] (.iB [(.one (.own 60 false u3.1.length)),(sI u3.2)]) (ai4 r_ u3))] } [60] ⟨(Fn.aaf (frz:=[36,37,38]) (p:=[r_.1.sources.length=r_.1.sources.length,r_.1.links.length=r_.1.links.length,r_.1.racks.length=r_.1.racks.length]) (Fn.leH (args:=(alj r_)) (args':=(af3 r_)) (hin:=[]) (rK [(0,60)] (xk r_.1 r_.2 2 hr_3)) ⟨jB.agg ⟨bH.refl _,bH.d dR.nI,bH.d dR.nI,bH.d dR.nI,trivial⟩,jB.agg ⟨bH.d dR.nI,bH.d dR.nI,bH.d dR.nI,bH.d dR.nI,bH.d dR.nI,bH.d dR.nI,bH.d dR.nI,trivial⟩,jB.refl _,trivial⟩ trivial) (by kernel_rfl) ⟨rfl,rfl,rfl,trivial⟩ (by kernel_rfl) ⟨(fun _ _=>rfl),trivial⟩ (by kernel_rfl)),rfl,trivial⟩ ?_
 refine aQ (aQ ?_)
 refine bI h (fun hb h=> ?_) (fun hb h=> ?_)
 ·skip
  refine aO h fun a1 h=> ?_
  refine ri tT ⟨[(1,(vP 48 0)),(KE r_),(3,(vP 59 0)),(74,(vB (bif (KA u0 u3 u1)then true else false)))],(Wv r_ u0)⟩ (eqs (!decide (u0.2=0)) 3 (eqs (WE u0 u1) 3 (eqs (Vo u0 u3 u1) 3 (eqs (Vr u0 u3 u1) 5 (eqs (Nk u0 u3 u1) 3 ((gP (Yb u0 u3 u1) [(20,false)]→All [(0:Int)≤0∧0<(u0.1.events.length:Int)])::(ajz u0 u3 u1)::(gP (Yb u0 u3 u1) [(20,false)]→All [0<u0.1.events.length])::(eqs (Nk u0 u3 u1) 3 (eqs (VD u0 u3 u1) 4 (eqs (VY u0 u3 u1) 4 [(KA u0 u3 u1)=true, ¬ gP (Yb u0 u3 u1) [(38,false)],(KA u0 u3 u1)=true, ¬ gP (Yb u0 u3 u1) [(38,false)],(KA u0 u3 u1)=true, ¬ gP (Yb u0 u3 u1) [(38,false)],(KA u0 u3 u1)=true, ¬ gP (Yb u0 u3 u1) [(38,false)],(KA u0 u3 u1)=true]))))))))) {yb:=[(2,(!decide (u0.2=0))),(6,(WE u0 u1)),(10,(Vo u0 u3 u1)),(14,(Vr u0 u3 u1)),(20,(Nk u0 u3 u1)),(28,(VD u0 u3 u1)),(33,(VY u0 u3 u1)),(38,true)],an:=[(39, .skip),(40, .skip),(41, .skip),(42, .skip)] } [] (ae (ae (ae (ae (ae ⟨(fun hg=> ⟨(a1 (aU hg)),trivial⟩),rfl,(fun hg=> ⟨((fun hq=>tL (a1 hq)) (aU hg)),trivial⟩),(ae (ae (ae ⟨(hb),((fun h=>Bool.noConfusion (show true=false from h.1))),(hb),((fun h=>Bool.noConfusion (show true=false from h.1))),(hb),((fun h=>Bool.noConfusion (show true=false from h.1))),(hb),((fun h=>Bool.noConfusion (show true=false from h.1))),(hb),trivial⟩)))⟩))))) (bJ.le (st':=⟨[(1,(vP 48 0)),(KE r_),(3,(vP 59 0)),(74,(vB true))],(Wv r_ u0)⟩) ⟨⟨tR,tR,tR,⟨_,rfl,fe.v (jB.one (bH.of (congrArg (fun b=>CV.d (.bool b)) (aaO hb))))⟩,trivial⟩,(.refl _)⟩) ?_
  refine ck (sz tT ⟨[(0,(vB false))],[]⟩ {} [] ?_)
  refine aR ?_
  obtain rfl:=oi h
  exact rl [(sB false)]
 ·skip
  refine bE h fun u5 hr_4 h=> ?_
  refine aO h fun a1 h=> ?_
  refine ri tT ⟨[(1,(vP 48 0)),(KE r_),(3,(vP 59 0)),(74,(vB (bif (KA u0 u3 u1)then true else(!u5))))],(Wv r_ u0)⟩ (eqs (!decide (u0.2=0)) 3 (eqs (WE u0 u1) 3 (eqs (Vo u0 u3 u1) 3 (eqs (Vr u0 u3 u1) 5 (eqs (Nk u0 u3 u1) 3 ((gP (abE u0 u3 u1) [(20,false)]→All [(0:Int)≤0∧0<(u0.1.events.length:Int)])::(ajz u0 u3 u1)::(gP (abE u0 u3 u1) [(20,false)]→All [0<u0.1.events.length])::(eqs (Nk u0 u3 u1) 3 (eqs (VD u0 u3 u1) 4 (eqs (VY u0 u3 u1) 4 [(KA u0 u3 u1)=false,(KA u0 u3 u1)=false,gP (abE u0 u3 u1) [(38,false)]→All [[0].length=1,aT 1 1 (xL 1 [(.int .i64 0)]) (au (aC .i64) [0])],gP (abE u0 u3 u1) [(38,false)],(KA u0 u3 u1)=false,gP (abE u0 u3 u1) [(38,false)]→All [Fn Tryz.prog 18 [(sD (aD none 1 (aC .i64) u3.1)),(.one (.own 61 true ([0].length)))] [(61,some (aF 3 1 (aC .i64) [0]))] (vB u5) [(61,some (aF 3 1 (aC .i64) [0]))]],(KA u0 u3 u1)=false,(KA u0 u3 u1)=false]))))))))) {yb:=[(2,(!decide (u0.2=0))),(6,(WE u0 u1)),(10,(Vo u0 u3 u1)),(14,(Vr u0 u3 u1)),(20,(Nk u0 u3 u1)),(28,(VD u0 u3 u1)),(33,(VY u0 u3 u1)),(38,false)],an:=[(40, .arr [0].length (au (aC .i64) [0])),(41, .callR [61] (vB u5))],fr:=[(40,61)] } [] (ae (ae (ae (ae (ae ⟨(fun hg=> ⟨(a1 (aU hg)),trivial⟩),rfl,(fun hg=> ⟨((fun hq=>tL (a1 hq)) (aU hg)),trivial⟩),(ae (ae (ae ⟨(hb),(hb),(fun hg=> ⟨(rfl),((by intro i hi j hj;match i,j,hi,hj with|0,0,_,_=>rfl)),trivial⟩),(⟨rfl,trivial⟩),(hb),(fun hg=> ⟨(Fn.DK (frz:=[61]) (p:=[[0].length=[0].length]) (Fn.le (args':=[(sD (aD none 1 (aC .i64) u3.1)),(sD (aD (some true) 1 (aC .i64) [0]))]) (zo u3.1 [0] hr_4) ⟨jB.refl _,jB.one (bH.d dR.nI),trivial⟩) (by kernel_rfl) ⟨rfl,trivial⟩ rfl),trivial⟩),(hb),(hb),trivial⟩)))⟩))))) (bJ.le (st':=⟨[(1,(vP 48 0)),(KE r_),(3,(vP 59 0)),(74,(vB (!u5)))],(Wv r_ u0)⟩) ⟨⟨tR,tR,tR,⟨_,rfl,fe.v (jB.one (bH.of (congrArg (fun b=>CV.d (.bool b)) (acd hb))))⟩,trivial⟩,(.refl _)⟩) ?_
  refine bI h (fun hb1 h=> ?_) (fun hb1 h=> ?_)
  ·refine ct hb1 ?_
   refine sz tT ⟨[(0,(vB false))],[]⟩ {} [] ?_
   refine aR ?_
   obtain rfl:=oi h
   exact rl [(sB false)]
  ·refine cf hb1 ?_
   refine aP (aQ (aO h fun a1 h=> ?_))
   refine ri tT ⟨(akV r_),[(48,some (.cells 26 [(cI r_.1.buses),(.d (acP r_)),(.d (.sl (some true) 6 r_.1.links.length (ad2 r_))),(.d (ac9 r_))])),(abA u0),(aaW u0),(aal u0),(aa7 u0),(aas u0),(aav u0),(aaQ u0),(abB u0),(adA u0)]⟩ [_,_,aT r_.1.links.length 6 (ad2 r_) (ad2 r_),r_.1.sources.length=r_.1.sources.length,r_.1.links.length=r_.1.links.length,r_.1.racks.length=r_.1.racks.length] {an:=[(4, .arr 0 (ad2 r_))] } [36,37,38] ⟨a1,(tL a1),(nQ _ _ _),rfl,rfl,rfl,trivial⟩ (.trans (bJ.le (st':=⟨(akV r_),[(48,some (.cells 26 (ai3 r_))),(abA u0),(aaW u0),(aal u0),(aa7 u0),(aas u0),(aav u0),(aaQ u0),(abB u0),(adA u0)]⟩) ⟨⟨tR,tR,tR,trivial⟩,⟨rfl,fG ⟨bH.refl _,bH.refl _,bH.d (dR.slN (by simp only [List.length_set]) (.inr rfl) (an8 Link.cell r_.1.links _ _ 1 5 [nS] (akf r_) (by simp only [List.length_set]) (fun j hj=>match j,hj with|0,_=> .refl _|1,_=> .refl _|2,_=> .refl _|3,_=> .refl _|4,_=> .refl _|5,_=>dR.nil'))),bH.refl _,trivial⟩,(.refl _)⟩⟩) (fz ⟨[(ahH r_),(KE r_),(3,(vP 59 0))],[(abA u0),(aaW u0),(aal u0),(aa7 u0),(aas u0),(aav u0),(aaQ u0),(abB u0),(adA u0)]⟩ [48])) ?_
   refine aQ (bE h fun u2 hr_5 h=> ?_)
   refine ri tT ⟨[(ahH r_),(KE r_),(3,(vP 59 0)),(4,(vI u2.2))],[(59,some (af9 u2))]⟩ [Fn Tryz.prog 11 (amP r_) [] (alo u2) (alV u2),u2.1.events.length=u2.1.events.length,u2.1.state.closed.length=u2.1.state.closed.length,u2.1.state.locked.length=u2.1.state.locked.length,u2.1.state.badLink.length=u2.1.state.badLink.length,u2.1.state.on_.length=u2.1.state.on_.length,u2.1.state.badSource.length=u2.1.state.badSource.length,u2.1.state.earthed.length=u2.1.state.earthed.length,u2.1.state.badBus.length=u2.1.state.badBus.length] {an:=[(2, .call [] (alo u2) (alV u2))] } [62,63,64,65,66,67,68,69] ⟨(Fn.leH (args:=(al7 r_)) (hin:=[]) (rK [(0,62),(1,63),(2,64),(3,65),(4,66),(5,67),(6,68),(7,69),(8,70)] (jv (aiv r_) r_.2 2 hr_5)) ⟨jB.agg ⟨bH.refl _,bH.d dR.nI,bH.d dR.nI,bH.d dR.nI,trivial⟩,jB.agg ⟨bH.d dR.nI,bH.d dR.nI,bH.d dR.nI,bH.d dR.nI,bH.d dR.nI,bH.d dR.nI,bH.d dR.nI,trivial⟩,jB.refl _,trivial⟩ trivial),rfl,rfl,rfl,rfl,rfl,rfl,rfl,rfl,trivial⟩ (fz ⟨[(ahH r_),(KE r_),(amo u2),(4,(vI u2.2))],[]⟩ [59]) ?_
   refine aQ (bE h fun u4 hr_6 h=> ?_)
   refine rg tT ⟨[(amo u2),(4,(vI u2.2)),(5,(vB u4.1)),(6,(vI u4.2))],[]⟩ [Fn Tryz.prog 14 (amP r_) [] (.iB [(sB u4.1),(sI u4.2)]) []] {an:=[(2, .call [] (.iB [(sB u4.1),(sI u4.2)]) [])] } [] ⟨(Fn.leH (args:=(al7 r_)) (hin:=[]) (nP (aiv r_) r_.2 2 hr_6) ⟨jB.agg ⟨bH.refl _,bH.d dR.nI,bH.d dR.nI,bH.d dR.nI,trivial⟩,jB.agg ⟨bH.d dR.nI,bH.d dR.nI,bH.d dR.nI,bH.d dR.nI,bH.d dR.nI,bH.d dR.nI,bH.d dR.nI,trivial⟩,jB.refl _,trivial⟩ trivial),trivial⟩ ?_
   refine aQ (aO h fun a1 h=> ?_)
   refine rg tT ⟨[(0,(vB (aib u2 u4)))],[]⟩ (eqs (decide (u2.2=0)) 3 (eqs (acF u2 u4) 3 (eqs (aew u2 u4) 3 (eqs (aeE u2 u4) 5 (eqs (acf u2 u4) 3 ((gP (ic [(2,(decide (u2.2=0))),(6,(acF u2 u4)),(10,(aew u2 u4)),(14,(aeE u2 u4)),(20,(acf u2 u4)),(28,(aeD u2 u4))]) [(20,true)]→All [(0:Int)≤0∧0<(u2.1.events.length:Int)])::(eqs (acf u2 u4) 4 (eqs (aeD u2 u4) 4 [])))))))) {yb:=[(2,(decide (u2.2=0))),(6,(acF u2 u4)),(10,(aew u2 u4)),(14,(aeE u2 u4)),(20,(acf u2 u4)),(28,(aeD u2 u4))] } [] (ae (ae (ae (ae (ae ⟨(fun hg=> ⟨(a1 (aU hg)),trivial⟩),(ae (ae trivial))⟩))))) ?_
   refine aR ?_
   obtain rfl:=oi h
   exact rl [(sB (aib u2 u4))]
def D7  :(List bP)→Exit→St→Prop:=
  fun r=>aW TT [.tmp 2] (vO 0 false r.length) [(0,some (aF 63 2 bP.cell r))]
section
variable (l:(List bP))
abbrev RL:Nat × TV:=(0,(vD (LF l)))
end
theorem Dg (l:(List bP)) {r:(List bP)} (h:qm l=some r):Fn Tryz.prog 107 [(sD (LF l))] [] (vO 0 false r.length) [(0,some (aF 63 2 bP.cell r))]:=by
 refine fN tT Tryz.func107 rfl rfl fun B=> ?_
 show bG _ _ _ _ _ _ (D7 r) _
 unfold qm at h
 refine sz tT ⟨[(RL l)],[]⟩ {} [] ?_
 refine sz tT ⟨[(RL l),(3,(vD nS))],[]⟩ {} [] ?_
 refine aQ (aO h fun⟨a1,a2⟩ h=> ?_)
 refine rg tT ⟨[(2,(vO 1 false l.length))],[(1,some (aF 63 2 bP.cell l))]⟩ [_,_,l.length=l.length,aT l.length 2 (au bP.cell l) (au bP.cell l)] {an:=[(2, .arr l.length (au bP.cell l))],fr:=[(2,1)] } [] ⟨a1,a2,rfl,(nQ _ _ _),trivial⟩ ?_
 refine aI (bJ.fin (st':=⟨[(2,(vO 0 false l.length))],[(0,some (aF 63 2 bP.cell l))]⟩) (cs:=[]) ⟨[],[(1,0)]⟩ [2] (by kernel_rfl) trivial) ?_
 refine aR ?_
 obtain rfl:=oi h
 exact rl [(.one (.own 0 false l.length))]
def Jp  :Link→Exit→St→Prop:=
  fun r=>aW TT [.cell 2 66] (.v (.agg [(cI r.a),(cI r.b),(cI r.kind),(cI r.most),(cI r.bK),(.d (aD none 2 bP.cell r.trip))])) []
theorem IA (x:Link) {r:Link} (h:oh x=some r):Fn Tryz.prog 82 [(.agg (k2 x))] [] (.v (.agg [(cI r.a),(cI r.b),(cI r.kind),(cI r.most),(cI r.bK),(.d (aD none 2 bP.cell r.trip))])) []:=by
 refine fN tT Tryz.func82 rfl rfl fun B=> ?_
 show bG _ _ _ _ _ _ (Jp r) _
 unfold oh at h
 refine sz tT ⟨[(1,(vP 3 0)),(2,(vP 4 0))],[(3,some (k1 x)),(4,some (.cells 66 [(cI 0),(cI 0),(cI 0),(cI 0),(cI 0),(.d nS)]))]⟩ {fr:=[(0,3),(1,4)] } [] ?_
 refine aQ (bE h fun r_ hr_ h=> ?_)
 have q0:=rk [(0,5)] (Dg x.trip hr_)
 refine di tT mX ⟨[(2,(vP 4 0))],[(4,some (.cells 66 [(cI x.a),(cI x.b),(cI x.kind),(cI x.most),(cI x.bK),(.d (LF r_))]))]⟩ [_,r_.length=r_.length] {an:=[(12,cA q0 [])] } [5] ⟨q0,rfl,trivial⟩ (fz ⟨[(2,(vD (oL [(.int .i64 x.a),(.int .i64 x.b),(.int .i64 x.kind),(.int .i64 x.most),(.int .i64 x.bK),(LF r_)] 0)))],[]⟩ [4]) ?_
 refine aR ?_
 obtain rfl:=oi h
 exact rl [(.agg [(cI x.a),(cI x.b),(cI x.kind),(cI x.most),(cI x.bK),(.d (LF r_))])]
def Bz  :(List Source)→Exit→St→Prop:=
  fun r=>aW TT [.tmp 2] (vO 0 false r.length) [(0,some (aF 60 5 Source.cell r))]
theorem Bd (l:(List Source)) {r:(List Source)} (h:nL l=some r):Fn Tryz.prog 31 [(sD (k73 l))] [] (vO 0 false r.length) [(0,some (aF 60 5 Source.cell r))]:=by
 refine fN tT Tryz.func31 rfl rfl fun B=> ?_
 show bG _ _ _ _ _ _ (Bz r) _
 unfold nL at h
 refine sz tT ⟨[(SA l)],[]⟩ {} [] ?_
 refine sz tT ⟨[(SA l),(3,(vD nS))],[]⟩ {} [] ?_
 refine aQ (aO h fun⟨a1,a2⟩ h=> ?_)
 refine rg tT ⟨[(2,(vO 1 false l.length))],[(1,some (aF 60 5 Source.cell l))]⟩ [_,_,l.length=l.length,aT l.length 5 (au Source.cell l) (au Source.cell l)] {an:=[(2, .arr l.length (au Source.cell l))],fr:=[(2,1)] } [] ⟨a1,a2,rfl,(nQ _ _ _),trivial⟩ ?_
 refine aI (bJ.fin (st':=⟨[(2,(vO 0 false l.length))],[(0,some (aF 60 5 Source.cell l))]⟩) (cs:=[]) ⟨[],[(1,0)]⟩ [2] (by kernel_rfl) trivial) ?_
 refine aR ?_
 obtain rfl:=oi h
 exact rl [(.one (.own 0 false l.length))]
def oK  :(List Link)→Exit→St→Prop:=
  fun r=>aW TT [.tmp 2] (vO 0 false r.length) [(0,some (aF 66 6 Link.cell r))]
def sU (l:(List Link)):((List Link) × Int)→St:=
  fun zz=>match zz with|(u0,i)=> ⟨[(vR l),(3,(vO 9 false u0.length)),(4,(vI i))],[(9,some (aF 66 6 Link.cell u0))]⟩
def sQ  :(List Link)→St:=
  fun u0=> ⟨[(3,(vO 9 false u0.length))],[(9,some (aF 66 6 Link.cell u0))]⟩
def CO (l:(List Link)):(aM ((List Link) × Int) (Ex (List Link) (List Link)))→Exit→St→Prop:=
  LQ 0 [] (sU l) sQ oK
theorem Dc (l:(List Link)) {r:(List Link)} (h:qo l=some r):Fn Tryz.prog 32 [(sD (k74 l))] [] (vO 0 false r.length) [(0,some (aF 66 6 Link.cell r))]:=by
 refine fN tT Tryz.func32 rfl rfl fun B=> ?_
 show bG _ _ _ _ _ _ (oK r) _
 unfold qo at h
 refine sz tT ⟨[(vR l)],[]⟩ {} [] ?_
 refine sz tT ⟨[(vR l),(3,(vD nS))],[]⟩ {} [] ?_
 refine aQ (sz tT ⟨[(vR l),(3,(vD nS)),(4,(vI 0))],[]⟩ {} [] ?_)
 refine bE h fun y hy h=> ?_
 refine aI (.trans (bJ.Er (t:=3) (b:=16) (esz0:=0) (el0:=fun _ _=> .nilp) (E:=66) (esz:=6) (el:=au Link.cell ([]:List Link)) (by kernel_rfl) (by kernel_rfl)) (.trans (bJ.fin (st':=⟨[(vR l),(3,(vO 9 false 0)),(4,(vI 0))],[(9,some (.arr 66 6 0 (au Link.cell ([]:List Link))))]⟩) (cs:=[]) ⟨[],[(16,9)]⟩ [0,3,4] (by kernel_rfl) trivial) (bJ.le (st':=⟨[(vR l),(3,(vO 9 false (([]:List Link).length))),(4,(vI 0))],[(9,some (aF 66 6 Link.cell ([]:List Link)))]⟩) ⟨⟨tR,⟨_,rfl,fe.v (jB.one cW)⟩,tR,trivial⟩,⟨rfl,oW,trivial⟩⟩))) ?_
 refine aL [] (sU l) sQ oK hy (fun s f h=> ?_) ?_
 ·clear hy
  show bG _ _ _ _ _ _ ((CO l) f) _
  unfold gu at h
  obtain⟨u0,i⟩:=s
  refine aQ (sz tT ⟨[(vR l),(3,(vO 9 false u0.length)),(4,(vI i)),(8,(vB (decide (i<(l.length:Int)))))],[(9,some (aF 66 6 Link.cell u0))]⟩ {} [] ?_)
  refine bI h (fun hb h=> ?_) (fun hb h=> ?_)
  ·refine ct hb ?_
   refine aP (aQ (aB (bE h fun r_ hr_ h=> ?_)))
   refine aO h fun⟨a1,a2,a3⟩ h=> ?_
   have q1:=IA (at' l i.toNat) hr_
   refine rg tT ⟨[(vR l),(3,(vO 15 false ((u0++[r_]).length))),(4,(vI i))],[(15,some (aF 66 6 Link.cell (u0++[r_])))]⟩ [_,_,[r_].length=1,aT 1 6 (xL 6 (k97 r_)) (au Link.cell [r_]),u0.length=u0.length,_,_,(u0++[r_]).length=u0.length+[r_].length,aT (u0.length+[r_].length) 6 (yJ (au Link.cell u0) u0.length (au Link.cell [r_])) (au Link.cell (u0++[r_]))] {an:=[(5,cA q1 []),(6, .arr [r_].length (au Link.cell [r_])),(7, .arr (u0++[r_]).length (au Link.cell (u0++[r_])))],fr:=[(6,14),(7,15)] } [] ⟨a1,q1,(rfl),((by intro i hi j hj;match i,j,hi,hj with|0,0,_,_=>rfl|0,1,_,_=>rfl|0,2,_,_=>rfl|0,3,_,_=>rfl|0,4,_,_=>rfl|0,5,_,_=>rfl)),rfl,a2,a3,(List.length_append),(dA _ _ _ _),trivial⟩ ?_
   refine ri tT ⟨[(vR l),(3,(vO 15 false ((u0++[r_]).length))),(4,(Am i))],[(15,some (aF 66 6 Link.cell (u0++[r_])))]⟩ [] {} [] trivial (bJ.fin (st':=⟨[(vR l),(3,(vO 9 false ((u0++[r_]).length))),(4,(Am i))],[(9,some (aF 66 6 Link.cell (u0++[r_])))]⟩) (cs:=[]) ⟨[],[(15,9)]⟩ [0,3,4] (by kernel_rfl) trivial) ?_
   obtain rfl:=oi h
   exact lN
  ·refine cf hb ?_
   refine aI (fz ⟨[(3,(vO 9 false u0.length))],[(9,some (aF 66 6 Link.cell u0))]⟩ []) ?_
   refine aX ?_
   obtain rfl:=oi h
   exact lB
 ·clear hy
  cases y with
  |brk z=>
   obtain⟨u1,rfl⟩: ∃q,q=z:=⟨_,rfl⟩
   unfold fE
   refine⟨_, .refl, ?_⟩
   refine sz tT ⟨[(2,(vO 9 false u1.length))],[(9,some (aF 66 6 Link.cell u1))]⟩ {} [] ?_
   refine aI (bJ.fin (st':=⟨[(2,(vO 0 false u1.length))],[(0,some (aF 66 6 Link.cell u1))]⟩) (cs:=[]) ⟨[],[(9,0)]⟩ [2] (by kernel_rfl) trivial) ?_
   refine aR ?_
   obtain rfl:=oi h
   exact rl [(.one (.own 0 false u1.length))]
  |ret v=>
   obtain rfl:=oi h
   unfold fE
   intro e st hn ha hR
   cases e with
   |normal=>exact absurd rfl hn
   |exit id=>exact hR
   |goto l=>exact hR
   |ret=>exact hR
   |panic c=>exact hR
   |outgrown=>exact hR
def Du  :(List aJ)→Exit→St→Prop:=
  fun r=>aW TT [.tmp 2] (vO 0 false r.length) [(0,some (aF 71 4 aJ.cell r))]
theorem C9 (l:(List aJ)) {r:(List aJ)} (h:ql l=some r):Fn Tryz.prog 33 [(sD (k75 l))] [] (vO 0 false r.length) [(0,some (aF 71 4 aJ.cell r))]:=by
 refine fN tT Tryz.func33 rfl rfl fun B=> ?_
 show bG _ _ _ _ _ _ (Du r) _
 unfold ql at h
 refine sz tT ⟨[(DL l)],[]⟩ {} [] ?_
 refine sz tT ⟨[(DL l),(3,(vD nS))],[]⟩ {} [] ?_
 refine aQ (aO h fun⟨a1,a2⟩ h=> ?_)
 refine rg tT ⟨[(2,(vO 1 false l.length))],[(1,some (aF 71 4 aJ.cell l))]⟩ [_,_,l.length=l.length,aT l.length 4 (au aJ.cell l) (au aJ.cell l)] {an:=[(2, .arr l.length (au aJ.cell l))],fr:=[(2,1)] } [] ⟨a1,a2,rfl,(nQ _ _ _),trivial⟩ ?_
 refine aI (bJ.fin (st':=⟨[(2,(vO 0 false l.length))],[(0,some (aF 71 4 aJ.cell l))]⟩) (cs:=[]) ⟨[],[(1,0)]⟩ [2] (by kernel_rfl) trivial) ?_
 refine aR ?_
 obtain rfl:=oi h
 exact rl [(.one (.own 0 false l.length))]
def C8  :(List Bool)→Exit→St→Prop:=
  fun r=>aW TT [.tmp 2] (vO 0 false r.length) [(0,some (aF 4 1 af r))]
section
variable (l:(List Bool))
abbrev Rl:Nat × TV:=(0,(vD (aD none 1 af l)))
end
theorem dP (l:(List Bool)) {r:(List Bool)} (h:bU l=some r):Fn Tryz.prog 34 [(sD (aD none 1 af l))] [] (vO 0 false r.length) [(0,some (aF 4 1 af r))]:=by
 refine fN tT Tryz.func34 rfl rfl fun B=> ?_
 show bG _ _ _ _ _ _ (C8 r) _
 unfold bU at h
 refine sz tT ⟨[(Rl l)],[]⟩ {} [] ?_
 refine sz tT ⟨[(Rl l),(3,(vD nS))],[]⟩ {} [] ?_
 refine aQ (aO h fun⟨a1,a2⟩ h=> ?_)
 refine rg tT ⟨[(2,(vO 1 false l.length))],[(1,some (aF 4 1 af l))]⟩ [_,_,l.length=l.length,aT l.length 1 (au af l) (au af l)] {an:=[(2, .arr l.length (au af l))],fr:=[(2,1)] } [] ⟨a1,a2,rfl,(nQ _ _ _),trivial⟩ ?_
 refine aI (bJ.fin (st':=⟨[(2,(vO 0 false l.length))],[(0,some (aF 4 1 af l))]⟩) (cs:=[]) ⟨[],[(1,0)]⟩ [2] (by kernel_rfl) trivial) ?_
 refine aR ?_
 obtain rfl:=oi h
 exact rl [(.one (.own 0 false l.length))]
def RF  :Int→Exit→St→Prop:=
  fun r=>aW TT [.tmp 4] (vI r) []
theorem NY (x:Int) (n:Int) {r:Int} (h:xP x n=some r):Fn Tryz.prog 10 [(sI x),(sI n)] [] (vI r) []:=by
 refine fN tT Tryz.func10 rfl rfl fun B=> ?_
 show bG _ _ _ _ _ _ (RF r) _
 unfold xP at h
 refine sz tT ⟨[(0,(vI x)),(1,(vI n))],[]⟩ {} [] ?_
 refine aQ (sz tT ⟨[(0,(vI x)),(1,(vI n)),(7,(vB (decide (n<1))))],[]⟩ {} [] ?_)
 refine bI h (fun hb1 h=> ?_) (fun hb1 h=> ?_)
 ·refine ct hb1 ?_
  refine sz tT ⟨[(4,(vI 0))],[]⟩ {} [] ?_
  refine aR ?_
  obtain rfl:=oi h
  exact rl [(sI 0)]
 ·refine cf hb1 ?_
  refine aP (aQ (aO h fun a1 h=> ?_))
  refine rg tT ⟨[(1,(vI n)),(5,(vI (Int.tmod x n)))],[]⟩ [_] {} [] ⟨a1,trivial⟩ ?_
  refine aQ (sz tT ⟨[(1,(vI n)),(5,(vI (Int.tmod x n))),(12,(vB (decide ((Int.tmod x n)<0))))],[]⟩ {} [] ?_)
  refine bI h (fun hb h=> ?_) (fun hb h=> ?_)
  ·refine ct hb ?_
   refine rz tT ⟨[(5,(vI (IntKind.wrap .i64 ((Int.tmod x n)+n))))],[]⟩ {} [] ?_
   refine sz tT ⟨[(4,(vI (IntKind.wrap .i64 ((Int.tmod x n)+n))))],[]⟩ {} [] ?_
   refine aR ?_
   obtain rfl:=oi h
   exact rl [(sI (IntKind.wrap .i64 ((Int.tmod x n)+n)))]
  ·refine cf hb ?_
   refine aP (sz tT ⟨[(4,(vI (Int.tmod x n)))],[]⟩ {} [] ?_)
   refine aR ?_
   obtain rfl:=oi h
   exact rl [(sI (Int.tmod x n))]
def vw  :Bool→Exit→St→Prop:=
  fun r=>aW TT [.tmp 4] (vB r) []
section
variable (p:ah)
abbrev VB:Nat × TV:=(5,(vI (p.links.length:Int)))
end
def Br (p:ah) (s_:State):Int→St:=
  fun i=> ⟨[(k7 p),(dS s_),(VB p),(8,(vI i))],[]⟩
def A9  :Unit→St:=
  fun _=> ⟨[],[]⟩
def JI (p:ah) (s_:State):(aM Int (Ex Unit Bool))→Exit→St→Prop:=
  LQ 0 [] (Br p s_) A9 vw
section
variable (s_:State) (p:ah) (i:Int)
abbrev agX:=(!decide ((s_.closed.length:Int)=(p.links.length:Int)))
abbrev ahQ:=(bif (agX s_ p)then true else(!decide ((s_.locked.length:Int)=(p.links.length:Int))))
abbrev agd:=(bif (ahQ s_ p)then true else(!decide ((s_.badLink.length:Int)=(p.links.length:Int))))
abbrev ahc:=(bif (agd s_ p)then true else(!decide ((s_.on_.length:Int)=(p.sources.length:Int))))
abbrev agw:=(bif (ahc s_ p)then true else(!decide ((s_.badSource.length:Int)=(p.sources.length:Int))))
abbrev agK:=(bif (agw s_ p)then true else(!decide ((s_.earthed.length:Int)=p.buses)))
abbrev ag1:=(ic [(7,(DX p i)),(14,(Fe s_ i))])
end
theorem JH (p:ah) (s_:State) {r:Bool} (h:pO p s_=some r):Fn Tryz.prog 87 (Oc s_ p) [] (vB r) []:=by
 refine fN tT Tryz.func87 rfl rfl fun B=> ?_
 show bG _ _ _ _ _ _ (vw r) _
 unfold pO at h
 refine sz tT (ZX p s_) {fr:=[(0,2),(1,3)] } [2,3] ?_
 refine sd tT mX ⟨[(k7 p),(dS s_),(VB p),(6,(vI (p.sources.length:Int))),(7,(vI p.buses))],[]⟩ [] {} [] trivial ?_
 refine aQ (sg tT ⟨[(k7 p),(dS s_),(VB p),(63,(vB (bif (agK s_ p)then true else(!decide ((s_.badBus.length:Int)=p.buses)))))],[]⟩ (eqs (agX s_ p) 6 (eqs (ahQ s_ p) 6 (eqs (agd s_ p) 6 (eqs (ahc s_ p) 6 (eqs (agw s_ p) 6 (eqs (agK s_ p) 6 [])))))) {yb:=[(5,(agX s_ p)),(12,(ahQ s_ p)),(19,(agd s_ p)),(26,(ahc s_ p)),(33,(agw s_ p)),(40,(agK s_ p))] } [] (ae (ae (ae (ae (ae (ae trivial)))))) ?_)
 refine bI h (fun hb2 h=> ?_) (fun hb2 h=> ?_)
 ·refine ct hb2 ?_
  refine sz tT ⟨[(4,(vB false))],[]⟩ {} [] ?_
  refine aR ?_
  obtain rfl:=oi h
  exact rl [(sB false)]
 ·refine cf hb2 ?_
  refine aP (aQ (sz tT ⟨[(k7 p),(dS s_),(VB p),(8,(vI 0))],[]⟩ {} [] ?_))
  refine bE h fun y hy h=> ?_
  refine aL [] (Br p s_) A9 vw hy (fun s f h=> ?_) ?_
  ·clear hy
   show bG _ _ _ _ _ _ ((JI p s_) f) _
   unfold lK at h
   obtain⟨i,rfl⟩: ∃q,q=s:=⟨_,rfl⟩
   refine aQ (sz tT ⟨[(k7 p),(dS s_),(VB p),(8,(vI i)),(66,(k48 p i))],[]⟩ {} [] ?_)
   refine bI h (fun hb1 h=> ?_) (fun hb1 h=> ?_)
   ·refine ct hb1 ?_
    refine aP (aQ (aB (aQ (aO h fun⟨a1,a2,a3⟩ h=> ?_))))
    refine rg tT ⟨[(k7 p),(dS s_),(VB p),(8,(vI i)),(90,(alP s_ p i))],[]⟩ (_::(eqs (DX p i) 4 ((gP (ag1 s_ p i) [(7,true)]→All [(0:Int)≤i∧i<(s_.closed.length:Int)])::(eqs (DX p i) 3 (eqs (Fe s_ i) 4 [gP (ag1 s_ p i) [(14,false),(7,true)]→All [(0:Int)≤i∧i<(s_.locked.length:Int)],(Fe s_ i)=(Fe s_ i),(DX p i)=(DX p i),gP (ag1 s_ p i) [(7,true)]→All [(Fe s_ i)=(Fe s_ i)],(DX p i)=(DX p i)]))))) {yb:=[(7,(DX p i)),(14,(Fe s_ i))] } [] ⟨a1,(ae ⟨(fun hg=> ⟨(a2 (aU hg)),trivial⟩),(ae (ae ⟨(fun hg=> ⟨(a3 (aU hg)),trivial⟩),rfl,rfl,(fun hg=> ⟨rfl,trivial⟩),rfl,trivial⟩))⟩)⟩ ?_
    refine bI h (fun hb h=> ?_) (fun hb h=> ?_)
    ·refine ct hb ?_
     refine sz tT ⟨[(4,(vB false))],[]⟩ {} [] ?_
     refine aR ?_
     obtain rfl:=oi h
     exact lR bY (dm 0) bZ (aW.mk (.inr rfl) (p:=[]) (l:=[(sB false)]) (by kernel_rfl) trivial (fe.refl _) trivial)
    ·refine cf hb ?_
     refine aP (rz tT ⟨[(k7 p),(dS s_),(VB p),(Zv i)],[]⟩ {} [] ?_)
     obtain rfl:=oi h
     exact lN
   ·refine cf hb1 ?_
    refine aI (fz ⟨[],[]⟩ []) ?_
    refine aX ?_
    obtain rfl:=oi h
    exact lB
  ·clear hy
   cases y with
   |brk z=>
    unfold fE
    refine⟨_, .refl, ?_⟩
    refine sz tT ⟨[(4,(vB true))],[]⟩ {} [] ?_
    refine aR ?_
    obtain rfl:=oi h
    exact rl [(sB true)]
   |ret v=>
    obtain rfl:=oi h
    unfold fE
    intro e st hn ha hR
    cases e with
    |normal=>exact absurd rfl hn
    |exit id=>exact hR
    |goto l=>exact hR
    |ret=>exact hR
    |panic c=>exact hR
    |outgrown=>exact hR
def DF  :Int→Exit→St→Prop:=
  fun r=>aW TT [.tmp 4] (vI r) []
theorem nA (p:ah) (s_:State) {r:Int} (h:fT p s_=some r):Fn Tryz.prog 38 (Oc s_ p) [] (vI r) []:=by
 refine fN tT Tryz.func38 rfl rfl fun B=> ?_
 show bG _ _ _ _ _ _ (DF r) _
 unfold fT at h
 refine sz tT (ZX p s_) {fr:=[(0,2),(1,3)] } [2,3] ?_
 refine aQ (bE h fun r_ hr_ h=> ?_)
 have q0:=tO p hr_
 refine rg tT ⟨[(k7 p),(dS s_),(5,(vI r_))],[]⟩ [_] {an:=[(1,cA q0 [])] } [] ⟨q0,trivial⟩ ?_
 refine aQ (aQ (bE h fun u0 hr_1 h=> ?_))
 refine rg tT ⟨[(5,(vI r_)),(15,(vB (bif (decide (r_=0))then(!u0)else false)))],[]⟩ (eqs (decide (r_=0)) 3 ((gP (ic [(2,(decide (r_=0)))]) [(2,true)]→All [Fn Tryz.prog 87 (Oc s_ p) [] (vB u0) []])::(eqs (decide (r_=0)) 2 []))) {yb:=[(2,(decide (r_=0)))],an:=[(5, .call [] (vB u0) [])] } [] (ae ⟨(fun hg=> ⟨(JH p s_ (fD hr_1 (aU hg))),trivial⟩),(ae trivial)⟩) ?_
 refine bI h (fun hb h=> ?_) (fun hb h=> ?_)
 ·refine ct hb ?_
  refine rz tT ⟨[(5,(vI 9))],[]⟩ {} [] ?_
  refine sz tT ⟨[(4,(vI 9))],[]⟩ {} [] ?_
  refine aR ?_
  obtain rfl:=oi h
  exact rl [(sI 9)]
 ·refine cf hb ?_
  refine aP (sz tT ⟨[(4,(vI r_))],[]⟩ {} [] ?_)
  refine aR ?_
  obtain rfl:=oi h
  exact rl [(sI r_)]
def KY  :Bool→Exit→St→Prop:=
  fun r=>aW TT [.tmp 6] (vB r) []
theorem AR (p:ah) (s_:State) (k:Int) {r:Bool} (h:ni p s_ k=some r):Fn Tryz.prog 88 (Kj p s_ k) [] (vB r) []:=by
 refine fN tT Tryz.func88 rfl rfl fun B=> ?_
 show bG _ _ _ _ _ _ (KY r) _
 unfold ni at h
 refine sz tT (Y5 p s_ k) {fr:=[(0,2),(1,3)] } [2,3] ?_
 refine aQ (aO h fun⟨a1,a2,a3,a4⟩ h=> ?_)
 refine dg tT mX (ak4 p s_ k) (_::(alF p s_ k)) {yb:=[(5,(at' s_.on_ k.toNat)),(13,(Qy s_ k))] } [] ⟨a1,(ae ⟨(fun hg=> ⟨(a2 (aU hg)),trivial⟩),(ae (ae ⟨(fun hg=> ⟨(a3 (aU hg)),trivial⟩),(ae ⟨(fun hg=> ⟨(a4 (aU hg)),trivial⟩),(ae trivial)⟩)⟩))⟩)⟩ ?_
 refine aR ?_
 obtain rfl:=oi h
 exact rl (ai9 p s_ k)
def Gv  :Bool→Exit→St→Prop:=
  fun r=>aW TT [.tmp 6] (vB r) []
section
variable (s_:State) (i:Int) (p:ah)
abbrev aan:=(ic [(5,(at' s_.closed i.toNat)),(13,(N9 s_ i)),(26,(QF s_ i p))])
end
theorem jm (p:ah) (s_:State) (i:Int) {r:Bool} (h:dV p s_ i=some r):Fn Tryz.prog 96 (Kj p s_ i) [] (vB r) []:=by
 refine fN tT Tryz.func96 rfl rfl fun B=> ?_
 show bG _ _ _ _ _ _ (Gv r) _
 unfold dV at h
 refine sz tT (Y5 p s_ i) {fr:=[(0,2),(1,3)] } [2,3] ?_
 refine aQ (aO h fun⟨a1,a2,a3,a4,a5,a6⟩ h=> ?_)
 refine dg tT mX (alD s_ i p) (_::(eqs (at' s_.closed i.toNat) 4 ((gP (aan s_ i p) [(5,true)]→All [(0:Int)≤i∧i<(s_.badLink.length:Int)])::(eqs (at' s_.closed i.toNat) 3 (eqs (N9 s_ i) 6 ((gP (aan s_ i p) [(13,true)]→All [(0:Int)≤i∧i<(p.links.length:Int)])::(eqs (N9 s_ i) 3 ((gP (aan s_ i p) [(13,true)]→All [(0:Int)≤(at' p.links i.toNat).a∧(at' p.links i.toNat).a<(s_.badBus.length:Int)])::(eqs (N9 s_ i) 3 (eqs (QF s_ i p) 6 ((gP (aan s_ i p) [(26,true)]→All [(0:Int)≤i∧i<(p.links.length:Int)])::(eqs (QF s_ i p) 3 ((gP (aan s_ i p) [(26,true)]→All [(0:Int)≤(at' p.links i.toNat).b∧(at' p.links i.toNat).b<(s_.badBus.length:Int)])::(ajt s_ i p)))))))))))))) {yb:=[(5,(at' s_.closed i.toNat)),(13,(N9 s_ i)),(26,(QF s_ i p))] } [] ⟨a1,(ae ⟨(fun hg=> ⟨(a2 (aU hg)),trivial⟩),(ae (ae ⟨(fun hg=> ⟨(a3 (aU hg)),trivial⟩),(ae ⟨(fun hg=> ⟨(a4 (aU hg)),trivial⟩),(ae (ae ⟨(fun hg=> ⟨(a5 (aU hg)),trivial⟩),(ae ⟨(fun hg=> ⟨(a6 (aU hg)),trivial⟩),(ae trivial)⟩)⟩))⟩)⟩))⟩)⟩ ?_
 refine aR ?_
 obtain rfl:=oi h
 exact rl (al1 s_ i p)
def sj  :Bool→Exit→St→Prop:=
  fun r=>aW TT [.tmp 8] (vB r) []
section
variable (u0:(List Int))
abbrev R3:Nat × TV:=(3,(Uj u0))
end
def xX (l:(List Int)) (u0:(List Int)):Int→St:=
  fun i=> ⟨[(wK l),(R3 u0),(9,(vI i))],[]⟩
def xu  :Unit→St:=
  fun _=> ⟨[],[]⟩
def Gp (l:(List Int)) (u0:(List Int)):(aM Int (Ex Unit Bool))→Exit→St→Prop:=
  LQ 0 [] (xX l u0) xu sj
theorem l9 (u1:Int) (l:(List Int)) (u2:Int) (u0:(List Int)) {r:Bool} (h:fQ u1 l u2 u0=some r):Fn Tryz.prog 116 [(sI u1),(sD (Fg l)),(sI u2),(sD (Fg u0))] [] (vB r) []:=by
 refine fN tT Tryz.func116 rfl rfl fun B=> ?_
 show bG _ _ _ _ _ _ (sj r) _
 unfold fQ at h
 refine sz tT ⟨[(0,(vI u1)),(wK l),(2,(vI u2)),(R3 u0)],[]⟩ {} [] ?_
 refine aQ (sz tT ⟨[(0,(vI u1)),(wK l),(2,(vI u2)),(R3 u0),(12,(vB (!decide (u1=u2))))],[]⟩ {} [] ?_)
 refine bI h (fun hb3 h=> ?_) (fun hb3 h=> ?_)
 ·refine ct hb3 ?_
  refine sz tT ⟨[(8,(vB (decide (u1<u2))))],[]⟩ {} [] ?_
  refine aR ?_
  obtain rfl:=oi h
  exact rl [(sB (decide (u1<u2)))]
 ·refine cf hb3 ?_
  refine aP (aQ (sz tT ⟨[(wK l),(R3 u0),(20,(vB (!decide ((l.length:Int)=(u0.length:Int)))))],[]⟩ {} [] ?_))
  refine bI h (fun hb2 h=> ?_) (fun hb2 h=> ?_)
  ·refine ct hb2 ?_
   refine sz tT ⟨[(8,(vB (decide ((l.length:Int)<(u0.length:Int)))))],[]⟩ {} [] ?_
   refine aR ?_
   obtain rfl:=oi h
   exact rl [(sB (decide ((l.length:Int)<(u0.length:Int))))]
  ·refine cf hb2 ?_
   refine aP (aQ (sz tT ⟨[(wK l),(R3 u0),(9,(vI 0))],[]⟩ {} [] ?_))
   refine bE h fun y hy h=> ?_
   refine aL [] (xX l u0) xu sj hy (fun s f h=> ?_) ?_
   ·clear hy
    show bG _ _ _ _ _ _ ((Gp l u0) f) _
    unfold fZ at h
    obtain⟨i,rfl⟩: ∃q,q=s:=⟨_,rfl⟩
    refine aQ (sz tT ⟨[(wK l),(R3 u0),(9,(vI i)),(29,(QT i l))],[]⟩ {} [] ?_)
    refine bI h (fun hb1 h=> ?_) (fun hb1 h=> ?_)
    ·refine ct hb1 ?_
     refine aP (aQ (aB (aQ (aO h fun⟨a1,a2⟩ h=> ?_))))
     refine dg tT mX ⟨[(wK l),(R3 u0),(9,(vI i)),(40,(vB (!decide ((at' l i.toNat)=(at' u0 i.toNat)))))],[]⟩ [_,_] {} [] ⟨a1,a2,trivial⟩ ?_
     refine bI h (fun hb h=> ?_) (fun hb h=> ?_)
     ·refine ct hb ?_
      refine aQ (aO h fun⟨a1,a2⟩ h=> ?_)
      refine dg tT mX ⟨[(8,(vB (decide ((at' l i.toNat)<(at' u0 i.toNat)))))],[]⟩ [_,_] {} [] ⟨a1,a2,trivial⟩ ?_
      refine aR ?_
      obtain rfl:=oi h
      exact lR bY (dm 0) bZ (aW.mk (.inr rfl) (p:=[]) (l:=[(sB (decide ((at' l i.toNat)<(at' u0 i.toNat))))]) (by kernel_rfl) trivial (fe.refl _) trivial)
     ·refine cf hb ?_
      refine aP (rz tT ⟨[(wK l),(R3 u0),(Y6 i)],[]⟩ {} [] ?_)
      obtain rfl:=oi h
      exact lN
    ·refine cf hb1 ?_
     refine aI (fz ⟨[],[]⟩ []) ?_
     refine aX ?_
     obtain rfl:=oi h
     exact lB
   ·clear hy
    cases y with
    |brk z=>
     unfold fE
     refine⟨_, .refl, ?_⟩
     refine sz tT ⟨[(8,(vB false))],[]⟩ {} [] ?_
     refine aR ?_
     obtain rfl:=oi h
     exact rl [(sB false)]
    |ret v=>
     obtain rfl:=oi h
     unfold fE
     intro e st hn ha hR
     cases e with
     |normal=>exact absurd rfl hn
     |exit id=>exact hR
     |goto l=>exact hR
     |ret=>exact hR
     |panic c=>exact hR
     |outgrown=>exact hR
def sH  :((List Int) × Int)→Exit→St→Prop:=
  fun r=>aW TT [.tmp 4, .tmp 5] (.iB [(sD (aD none 1 (aC .i64) r.1)),(sI r.2)]) []
section
variable (u0:(List Int)) (l:(List Short)) (p:ah) (n:Int)
abbrev Bv:Nat × TV:=(7,(vO 7 true u0.length))
abbrev ab0:Nat × Option Ob:=(7,some (zP u0))
abbrev LP:List (Nat × Option Ob):=[(ab0 u0)]
abbrev ag6:St:=⟨[(qV l),(k7 p),(Bv u0),(8,(vI n))],(LP u0)⟩
end
def yA (p:ah) (l:(List Short)):((List Int) × Int)→St:=
  fun zz=>match zz with|(u0,n)=>(ag6 u0 l p n)
def yw  :(List Int)→St:=
  fun u0=> ⟨[(Bv u0)],(LP u0)⟩
def jV (p:ah) (l:(List Short)):(aM ((List Int) × Int) (Ex (List Int) ((List Int) × Int)))→Exit→St→Prop:=
  LQ 0 [] (yA p l) yw sH
section
variable (l:(List Short)) (p:ah) (u0:(List Int)) (n:Int) (u1:(List Bool)) (i:Int)
abbrev akJ:List (Nat × TV):=[(qV l),(k7 p),(Bv u0),(8,(vI n)),(9,(vO 11 true u1.length)),(10,(vI i))]
abbrev abW:List (Nat × Option Ob):=[(ab0 u0),(Zw u1)]
end
def xI (p:ah) (l:(List Short)) (u0:(List Int)) (n:Int):((List Bool) × Int)→St:=
  fun zz=>match zz with|(u1,i)=> ⟨(akJ l p u0 n u1 i),(abW u0 u1)⟩
section
variable (l:(List Short)) (p:ah) (u0:(List Int)) (n:Int) (u1:(List Bool))
abbrev amF:St:=⟨[(qV l),(k7 p),(Bv u0),(8,(vI n)),(9,(vO 11 true u1.length))],(abW u0 u1)⟩
end
def xV (p:ah) (l:(List Short)) (u0:(List Int)) (n:Int):(List Bool)→St:=
  fun u1=>(amF l p u0 n u1)
def F8 (p:ah) (l:(List Short)) (u0:(List Int)) (n:Int):(aM ((List Bool) × Int) (Ex (List Bool) (aM ((List Int) × Int) (Ex (List Int) ((List Int) × Int)))))→Exit→St→Prop:=
  LQ 2 [1] (xI p l u0 n) (xV p l u0 n) (jV p l)
section
variable (u1:(List Bool)) (l:(List Short)) (p:ah) (u0:(List Int)) (n:Int) (k:Int)
abbrev Ww:Nat × TV:=(9,(vD (aD (some true) 1 af u1)))
abbrev akx:List (Nat × TV):=[(qV l),(k7 p),(Bv u0),(8,(vI n)),(Ww u1),(12,(vI k))]
end
def xq (p:ah) (l:(List Short)) (n:Int) (u1:(List Bool)):((List Int) × Int)→St:=
  fun zz=>match zz with|(u0,k)=> ⟨(akx u1 l p u0 n k),(LP u0)⟩
def xM (p:ah) (l:(List Short)) (n:Int):(List Int)→St:=
  fun u0=>(ag6 u0 l p n)
def Gh (p:ah) (l:(List Short)) (n:Int) (u0:(List Bool)):(aM ((List Int) × Int) (Ex (List Int) (aM ((List Int) × Int) (Ex (List Int) ((List Int) × Int)))))→Exit→St→Prop:=
  LQ 4 [1] (xq p l n u0) (xM p l n) (jV p l)
end
end Sg
