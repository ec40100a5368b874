import Derived.Test.YtcafpngcflplgaaGreatDoorSmLe
import Derived.Shelf.SlSortCmp.NoneTotal
import Derived.Lib.ItoaNum
import Derived.Lib.AtoiAll
import Derived.Lib.SplitLaws
import Derived.Lib.CutLaws
import Derived.Test.YtcafpngcflplgaaGreatDoorChecked
import Derived.Shelf.Strings.Builder1
import Derived.Shelf.Strconv.Itoa3
import Derived.Shelf.Strconv.AtoiAll
import Derived.Shelf.Strings.Cut
import Derived.Shelf.Strings.Split
import Derived.Shelf.Strings.Prefix
import Derived.KernelRfl
import Derived.WalkKit
import Derived.BigCall
import Derived.LoopTactic
import Derived.LoopN
import Derived.MapFrom
import Derived.Maps.RangeRun
import Derived.Laws.IdiomRangeMap
import Derived.Below
import Derived.ChangeMaps4
import Derived.Shelf.Strings.BuilderK
import Derived.OrdersHeld
import Derived.Sort.Grow
import Derived.Shelf.SlSortCmp.InsertionK
import Derived.Test.YtcafpngcflplgaaGreatDoorSmLf
import Derived.Lib.ItoaLen
import Derived.WalkLawsBesides
import Derived.Recover
import Derived.Lib.AtoiAllCases
import Derived.Shelf.RegionOpenPlain
import Derived.Test.YtcafpngcflplgaaGreatDoorSmLc
import Derived.Handed
import Derived.Shelf.Vars
import Derived.ChangeArms
set_option linter.all false
namespace Sg
open Go Go.Sort Go.Proofs Go.Shelf
variable {P:Program} {α:Type} [Inhabited α]
theorem VO {l:List α} (i:Nat):l.toArray[i]! =at' l i:=by
 unfold at';simp [cS]
theorem WQ {ρ0:Ren} (L:SlLaysF0.n6 P ρ0) (k:Nat) (aE: ∀w,(isAgg (ρ0.t 24)).run P w= .ok true w) (zE: ∀w,(Go.sizeOf (ρ0.t 24)).run P w= .ok k w)
  (enc:α->List Value) (hk: ∀x,(enc x).length=k) (h1: ∀x,∀v∈enc x,v.oneCell'=true) (cf:α->α->Int) (hO:SWO (ltOf cf))
  (hT: ∀x y,(ltOf cf) x y=false->(ltOf cf) y x=false->x=y) {g:Nat}
  (hcmp: ∀blk off size w,CmpLays P g #[] enc k cf blk off size w) (eg: ∀args w,(callFunc g args).run P w= .ok (.enter g args) w)
  {E:TypeId} {c:α->Nat->DV} (hd: ∀F w (x:α) j,j<k-> ∀v,bG F w (c x j) v↔v=(enc x)[j]!)
  (f:Nat) (hf:ρ0.f 6=f) (hen:Enters P f) {nn:Bool} {cap0:Nat->DV} (l:List α) {r:List α} (hr:(bif decide (l.length<4611686018427387904)then some (l.mergeSort fun x y=> !(ltOf cf) y x)else none)=some r):
  Fn P f [.one (.own 0 nn l.length), .one (.d (.fn g 0 cap0))] [(0,some (.arr E k l.length (aj c l)))] (.eB []) [(0,some (.arr E k r.length (aj c r)))]:=by
 subst hf;have hsz0:l.length<4611686018427387904:=by
  cases hq:decide (l.length<4611686018427387904)with
  |true=>exact of_decide_eq_true hq
  |false=>rw [hq]at hr;cases hr
 rw [bx hsz0]at hr;cases hr;refine⟨hen,fun B vs hF hi ha=> ?_⟩
 match vs,ha with
 |[v0,v1],⟨h0,h2,_⟩=>
 obtain⟨cs,rfl,hl,_⟩:=h2;have hcs:cs=[]:=List.eq_nil_of_length_eq_zero hl;subst hcs;have hz:(l.mergeSort fun x y=> !(ltOf cf) y x).length=l.length:=List.length_mergeSort _;rcases h0 with⟨blk,base,cap,hb,rfl⟩|⟨_,hb,hl0,rfl⟩
 ·obtain⟨ft,hi⟩:=hi;have hob:aP [(0,some (Ob.arr E k l.length (aj c l)))] 0=some (some (.arr E k l.length (aj c l))):=rfl;rcases hi.obj 0 _ hob with⟨hn,_⟩|⟨blk',base',cap',hb',hS,vs,hhp,hroom,hlc,hcm,hel⟩
  ·rw [hb]at hn;cases hn
  rw [hb]at hb';cases hb';obtain⟨hlt,hnF,hFt⟩:=hi.blk 0 _ blk hob hS;have hFt:B.Ft blk:=hFt.resolve_right (by omega);have hcell: ∀t,t<l.length*k->B.w.cell? ⟨blk,base+t,none⟩=some (Go.Sort.flatK enc k l.toArray)[t]! :=by
   intro t ht;have k0:0<k:=by
    rcases Nat.eq_zero_or_pos k with h|h;·subst h;simp at ht
    ·exact h
   have hq:t / k<l.length:=Nat.div_lt_of_lt_mul (by rwa [ed]at ht);obtain⟨u,hu,hru⟩:=hel (t / k) hq (t % k) (eM _ k0);rw [get_flatK _ _ _ _ ht,VO];have:=(hd _ _ _ _ (eM _ k0) _).1 hru;subst this;simp only [World.cell?,hhp];rw [show t / k*k+t % k=t by rw [ed];exact Nat.div_add_mod t k]at hu;simpa using hu
  have hfrz: ∀a:Addr,a.block=blk->B.w.frozen? a=false:=fun a e=>by simp [World.frozen?,e,hhp]
  have hH:HoldsK enc k B.w blk base l.toArray:=fun t ht=> ⟨hcell t (by rw [size_flatK]at ht;exact ht),hfrz _ rfl⟩;have hs:l.toArray.size=l.length:=by simp
  have key:=AnyQ.slices_SortFunc_total L k aE zE enc hk h1 cf hO g #[] blk base cap l.toArray B.w eg (hcmp blk base _ B.w) hH hlt (by rw [hs];exact hsz0) hT;rw [hs]at key;refine key.mono ?_;rintro e w' ⟨rfl,n,os,hw⟩;have hd':(l.toArray.toList.mergeSort fun x y=> !(ltOf cf) y x)=l.mergeSort fun x y=> !(ltOf cf) y x:=rfl;rw [hd']at hw;generalize hm:(l.mergeSort fun x y=> !(ltOf cf) y x)=m at hw hz ⊢;have hH':HoldsK enc k w' blk base m.toArray:=by rw [hw];exact holdsK_sortWorldK_c enc k B.w blk base l.toArray m.toArray n os hH hlt (by simp [hz])
  have hsz:B.w.heap.size<=w'.heap.size:=by rw [hw];exact size_sortWorldK_c enc k B.w blk base n m.toArray os
  have hold: ∀q,q<B.w.heap.size->q≠blk->w'.heap[q]? =B.w.heap[q]? :=fun q hq hne=>by
   rw [hw];unfold sortWorldK;rw [heap_grow_old _ _ (by show q<(putRow id (Go.Sort.ahead B.w n) blk base _).heap.size;rw [Go.Sort.size_putRow];exact hq)];show((B.w.heap.modify blk _)[q]?)=_;rw [Array.getElem?_modify,ce (Ne.symm hne)]
  have hnew:w'.heap[blk]? =some (.cells (putCells id base (Go.Sort.flatK enc k m.toArray) vs.toArray) E (0,0)):=by
   rw [hw];unfold sortWorldK;rw [heap_grow_old _ _ (by show blk<(putRow id (Go.Sort.ahead B.w n) blk base _).heap.size;rw [Go.Sort.size_putRow];exact hlt)];show((B.w.heap.modify blk _)[blk]?)=_;rw [Array.getElem?_modify,ci rfl,hhp];rfl
  have hos:w'.os=B.w.os/\w'.tape=B.w.tape/\OD w' B.w:=by rw [hw];exact⟨rfl,rfl,rfl,trivial⟩
  have hget: ∀b ob ob',aP [(0,some ob')] b=some (some ob)->b=0/\ob=ob':=fun b ob ob' h=>by
   unfold aP at h;rw [aC]at h;split at h;·rename_i e;cases h;exact⟨e.symm,rfl⟩
   ·cases h
  refine⟨.tuple #[],B.ρ,B.F,rfl,⟨hos.1,hos.2.1,hos.2.2,hsz,fun q hq hn=>hold q hq fun e=>hn (e ▸ hFt),fun _ _ h=>h,fun q hq=> ⟨eJ (hF q hq) hsz, .inl hq⟩,fun _ h=>h⟩,⟨ft,fun b ob h=> ?_,fun b ob q h hq=> ?_,fun b b' ob ob' q h h' hq hq'=> ?_,fun b h=> ?_,fun x hx=> ⟨(hi.gl x hx).1,by rw [hold _ (hF _ (hi.gl x hx).1) (fun e=>hnF (e ▸ (hi.gl x hx).1))];exact(hi.gl x hx).2⟩⟩,⟨[],rfl,trivial⟩⟩
  ·obtain⟨rfl,rfl⟩:=hget _ _ _ h;refine .inr ⟨blk,base,cap,hb,hS,(putCells id base (Go.Sort.flatK enc k m.toArray) vs.toArray).toList,hnew, ?_,by omega,hcm,fun i hi' j hj=> ?_⟩
   ·simp [putCells];exact hroom
   ·have ht:i*k+j<m.length*k:=by
     have:=cG k (show i+1<=m.length from hi');rw [ee,ef]at this;omega
    have:=(hH' (i*k+j) (by simpa using ht)).1;simp only [World.cell?,hnew]at this;refine⟨(Go.Sort.flatK enc k m.toArray)[i*k+j]!,by simpa using this, ?_⟩;rw [get_flatK _ _ _ _ ht,VO];have e1:(i*k+j) / k=i:=(blk_iff k i _ (by omega)).1 ⟨by omega,by omega⟩;have e2:(i*k+j) % k=j:=by rw [Nat.mod_eq_sub_div_mul,e1];omega
    rw [e1,e2];exact(hd _ _ _ _ hj _).2 rfl
  ·obtain⟨rfl,rfl⟩:=hget _ _ _ h;obtain⟨x1,x2,x3⟩:=hi.blk 0 _ q hob hq;exact⟨eJ x1 hsz,x2,x3⟩
  ·rw [(hget _ _ _ h).1,(hget _ _ _ h').1]
  ·refine hi.fresh b ?_;unfold aP at h ⊢;rw [aC]at h ⊢;split at h
   ·cases h
   ·rename_i hne;rw [ce hne];rfl
 ·have hl1:l=[]:=List.eq_nil_of_length_eq_zero hl0;subst hl1;refine(AnyF.slices_SortFunc_none L none 0 (.func (.func g) #[] #[]) B.w).mono ?_;rintro e w' ⟨rfl,rfl⟩;have hm:(([]:List α).mergeSort fun x y=> !(ltOf cf) y x)=[]:=by simp
  rw [hm];exact⟨.tuple #[],B.ρ,B.F,rfl,⟨rfl,rfl, .refl _,cx _,fun _ _ _=>rfl,fun _ _ h=>h,fun q hq=> ⟨hF q hq, .inl hq⟩,fun _ h=>h⟩,hi,⟨[],rfl,trivial⟩⟩
def sb (l:List UInt8):ByteArray:=⟨l.toArray⟩
def xK (a b c:List UInt8) (k:Int):List UInt8:=if k=1 then a else if k=2 then b else if k=3 then c else []
def tQ:List UInt8:=[103,114,105,100]
def Cz:List UInt8:=[103,101,110,101,114,97,116,111,114]
def CG:List UInt8:=[98,97,116,116,101,114,121]
def BA:List UInt8:=[99,97,98,108,101]
def BL:List UInt8:=[115,119,105,116,99,104]
def BN:List UInt8:=[98,114,101,97,107,101,114]
inductive Wd where
 |n (i:Int)
 |s (l:List UInt8)
instance:Inhabited Wd:=⟨.n 0⟩
def YB:Wd->List UInt8
 | .n i=>Lib.itoa i
 | .s l=>l
def rD (l:List Wd):Nat->List UInt8
 |0=>[]
 |i+1=>rD l i++((if 0<i then [32]else [])++YB (l.getD i default))
def qy (l:List Wd):List UInt8:=rD l l.length++[10]
def jG:List UInt8:=[112,108,97,110,116]
def jR:List UInt8:=[115,111,117,114,99,101]
def qw:List UInt8:=[108,105,110,107]
def qj:List UInt8:=[114,97,99,107]
def NS (f:Nat->Int):List Wd:=[.s jR, .n (f 0), .s (xK tQ Cz CG (f 1)), .n (f 2), .n (f 3), .n (f 4)]
def iW (sf:Nat->Nat->Int):Nat->List UInt8
 |0=>[]
 |i+1=>iW sf i++qy (NS (sf i))
def zY (f:Nat->Int):List Wd:=[.s qw, .n (f 0), .n (f 1), .s (xK BA BL BN (f 2)), .n (f 3), .n (f 4)]
def ED (f:Nat->Nat->Int):Nat->List Wd
 |0=>[]
 |i+1=>ED f i++[.s (Lib.itoa (f i 0)++([58]++Lib.itoa (f i 1)))]
def CU (f:Nat->Int) (n:Nat) (tf:Nat->Nat->Int):List Wd:=zY f++ED tf n
def kN (lf:Nat->Nat->Int) (tn:Nat->Nat) (tf:Nat->Nat->Nat->Int):Nat->List UInt8
 |0=>[]
 |i+1=>kN lf tn tf i++qy (CU (lf i) (tn i) (tf i))
def Pe (f:Nat->Int):List Wd:=[.s qj, .n (f 0), .n (f 1), .n (f 2), .n (f 3)]
def qD (rf:Nat->Nat->Int):Nat->List UInt8
 |0=>[]
 |i+1=>qD rf i++qy (Pe (rf i))
def jQ (nb:Int):List UInt8:=qy [.s jG, .n nb]
def JU (z:Int):Bool:=decide (-9223372036854775808<=z) && decide (z<=9223372036854775807)
def Gg (n:Nat) (f:Nat->Bool):Bool:=(List.range n).all f
def QC (nb:Int) (ns nl nr:Nat) (sf lf rf:Nat->Nat->Int) (tn:Nat->Nat) (tf:Nat->Nat->Nat->Int):List UInt8:=jQ nb++(iW sf ns++(kN lf tn tf nl++qD rf nr))
def fmtG (nb:Int) (ns nl nr:Nat) (sf lf rf:Nat->Nat->Int) (tn:Nat->Nat) (tf:Nat->Nat->Nat->Int):Bool:=
 JU nb && decide (ns<=1000000) && Gg ns (fun i=>Gg 5 fun j=>JU (sf i j)) && decide (nl<=1000000) && Gg nl (fun i=>Gg 5 (fun j=>JU (lf i j)) && decide (tn i<=1000) && Gg (tn i) fun g=>Gg 2 fun j=>JU (tf i g j)) &&
  decide (nr<=1000000) && Gg nr (fun i=>Gg 4 fun j=>JU (rf i j)) && decide ((QC nb ns nl nr sf lf rf tn tf).length<=140737488355328)
def dP (b:Bool):Option (Option Unit):=some (bif b then some ()else none)
def jA (a b:ByteArray):Option (ByteArray × ByteArray × Bool):=
 bif decide (a.size<4294967281)then some (sb (Lib.cut a.data.toList b.data.toList).1,sb (Lib.cut a.data.toList b.data.toList).2.1,(Lib.cut a.data.toList b.data.toList).2.2)else none
def jo (a b:ByteArray):Option (List ByteArray):=
 bif decide (a.size<4294967281) && decide (1<=b.size)then some (Lib.splitB b 0 (Lib.countB a b) a)else none
theorem Na (s:ByteArray):s.toList=s.data.toList:=by
 obtain⟨⟨l⟩⟩:=s;simp
theorem rE (a b:ByteArray):(a.toList==b.toList)=decide (a=b):=by
 rw [Na,Na,Bool.eq_iff_iff,beq_iff_eq,db,Array.toList_inj];exact⟨fun h=>ByteArray.ext h,fun h=>h ▸ rfl⟩
def numOf (s:ByteArray):Option Int:=
 match Lib.atoiAll s.data.toList with
 | .ok v=>bif decide (sb (Lib.itoa v)=s) && decide ((Lib.trimPrefix s.data.toList [45]).length<=9)then some v else none
 |_=>none
def aZ (s:ByteArray):Option (Option Int):=bif decide (s.size<=1000000)then some (numOf s)else none
end Sg

namespace Sg
open Go Go.Proofs
set_option maxRecDepth 20000
def tC:Go.Shelf.Ren:=⟨fun|101=>140|129=>120|138=>131|143=>132|145=>71|146=>69|166=>60|167=>59|169=>66|171=>61|172=>139|195=>146|197=>147|205=>174|206=>169|208=>156|217=>149|218=>148|219=>133|220=>106|221=>105|224=>151|225=>150|240=>103|243=>104|244=>154|245=>155|246=>129|247=>164|260=>161|266=>162|267=>152|268=>130|276=>128|279=>165|280=>166|281=>167|282=>168|283=>142|284=>143|285=>144|286=>145|287=>172|314=>163|316=>173|317=>157|318=>158|319=>159|320=>160|321=>175|322=>176|337=>170|338=>171|n=>n,fun|0=>0|2=>2|3=>3|4=>4|5=>5|9=>9|20=>20|21=>21|31=>53|37=>57|46=>166|51=>196|53=>198|59=>142|70=>117|71=>118|72=>119|74=>121|75=>122|76=>124|80=>133|85=>241|105=>228|119=>247|127=>183|137=>248|138=>249|139=>250|143=>261|144=>262|145=>263|146=>238|164=>208|167=>240|168=>243|171=>224|173=>226|175=>251|209=>254|210=>255|212=>236|213=>237|232=>257|233=>258|n=>n,fun|1=>0|3=>2|4=>3|15=>4|16=>5|17=>1|18=>6|19=>7|n=>n⟩
theorem F7:Go.Proofs.Lays.n166 Tryz.prog tC:={mixed:=by kernel_rfl,f166:=Tryz.func60.trans (congrArg some (by kernel_rfl)),f240:=Tryz.func103.trans (congrArg some (by kernel_rfl)),f276:=Tryz.func128.trans (congrArg some (by kernel_rfl)),t0:=Tryz.underlying0,a0:=Tryz.isAgg0,z0:=Tryz.sizeOf0,v0:=Tryz.zeroValue0,t3:=Tryz.underlying3,a3:=Tryz.isAgg3,z3:=Tryz.sizeOf3,v3:=Tryz.zeroValue3,t4:=Tryz.underlying4,a4:=Tryz.isAgg4,z4:=Tryz.sizeOf4,v4:=Tryz.zeroValue4,t9:=Tryz.underlying9,a9:=Tryz.isAgg9,z9:=Tryz.sizeOf9,v9:=Tryz.zeroValue9,t20:=Tryz.underlying20,a20:=Tryz.isAgg20,z20:=Tryz.sizeOf20,v20:=Tryz.zeroValue20,t37:=Tryz.underlying57,a37:=Tryz.isAgg57,z37:=Tryz.sizeOf57,v37:=Tryz.zeroValue57,t70:=Tryz.underlying117,a70:=Tryz.isAgg117,z70:=Tryz.sizeOf117,v70:=Tryz.zeroValue117,t72:=Tryz.underlying119,a72:=Tryz.isAgg119,z72:=Tryz.sizeOf119,v72:=Tryz.zeroValue119,t75:=Tryz.underlying122,a75:=Tryz.isAgg122,z75:=Tryz.sizeOf122,v75:=Tryz.zeroValue122,t164:=Tryz.underlying208,a164:=Tryz.isAgg208,z164:=Tryz.sizeOf208,v164:=Tryz.zeroValue208}
theorem FY:Go.Proofs.Lays.n167 Tryz.prog tC:={mixed:=by kernel_rfl,f167:=Tryz.func59.trans (congrArg some (by kernel_rfl)),f240:=Tryz.func103.trans (congrArg some (by kernel_rfl)),f276:=Tryz.func128.trans (congrArg some (by kernel_rfl)),t0:=Tryz.underlying0,a0:=Tryz.isAgg0,z0:=Tryz.sizeOf0,v0:=Tryz.zeroValue0,t4:=Tryz.underlying4,a4:=Tryz.isAgg4,z4:=Tryz.sizeOf4,v4:=Tryz.zeroValue4,t5:=Tryz.underlying5,a5:=Tryz.isAgg5,z5:=Tryz.sizeOf5,v5:=Tryz.zeroValue5,t9:=Tryz.underlying9,a9:=Tryz.isAgg9,z9:=Tryz.sizeOf9,v9:=Tryz.zeroValue9,t20:=Tryz.underlying20,a20:=Tryz.isAgg20,z20:=Tryz.sizeOf20,v20:=Tryz.zeroValue20,t37:=Tryz.underlying57,a37:=Tryz.isAgg57,z37:=Tryz.sizeOf57,v37:=Tryz.zeroValue57,t70:=Tryz.underlying117,a70:=Tryz.isAgg117,z70:=Tryz.sizeOf117,v70:=Tryz.zeroValue117,t72:=Tryz.underlying119,a72:=Tryz.isAgg119,z72:=Tryz.sizeOf119,v72:=Tryz.zeroValue119,t75:=Tryz.underlying122,a75:=Tryz.isAgg122,z75:=Tryz.sizeOf122,v75:=Tryz.zeroValue122,t164:=Tryz.underlying208,a164:=Tryz.isAgg208,z164:=Tryz.sizeOf208,v164:=Tryz.zeroValue208}
theorem FX:Go.Proofs.Lays.n169 Tryz.prog tC:={mixed:=by kernel_rfl,f169:=Tryz.func66.trans (congrArg some (by kernel_rfl)),t0:=Tryz.underlying0,a0:=Tryz.isAgg0,z0:=Tryz.sizeOf0,v0:=Tryz.zeroValue0,t3:=Tryz.underlying3,a3:=Tryz.isAgg3,z3:=Tryz.sizeOf3,v3:=Tryz.zeroValue3,t9:=Tryz.underlying9,a9:=Tryz.isAgg9,z9:=Tryz.sizeOf9,v9:=Tryz.zeroValue9,t37:=Tryz.underlying57,a37:=Tryz.isAgg57,z37:=Tryz.sizeOf57,v37:=Tryz.zeroValue57,t70:=Tryz.underlying117,a70:=Tryz.isAgg117,z70:=Tryz.sizeOf117,v70:=Tryz.zeroValue117,t72:=Tryz.underlying119,a72:=Tryz.isAgg119,z72:=Tryz.sizeOf119,v72:=Tryz.zeroValue119,t127:=Tryz.underlying183,a127:=Tryz.isAgg183,z127:=Tryz.sizeOf183,v127:=Tryz.zeroValue183}
theorem DN:Go.Proofs.LaysM.n171 Tryz.prog tC:={ton171:={mixed:=by kernel_rfl,f129:=Tryz.func120.trans (congrArg some (by kernel_rfl)),f171:=Tryz.func61.trans (congrArg some (by kernel_rfl)),f243:=Tryz.func104.trans (congrArg some (by kernel_rfl)),f246:=Tryz.func129.trans (congrArg some (by kernel_rfl)),f283:=Tryz.func142.trans (congrArg some (by kernel_rfl)),f284:=Tryz.func143.trans (congrArg some (by kernel_rfl)),f285:=Tryz.func144.trans (congrArg some (by kernel_rfl)),f286:=Tryz.func145.trans (congrArg some (by kernel_rfl)),f317:=Tryz.func157.trans (congrArg some (by kernel_rfl)),f318:=Tryz.func158.trans (congrArg some (by kernel_rfl)),f319:=Tryz.func159.trans (congrArg some (by kernel_rfl)),f320:=Tryz.func160.trans (congrArg some (by kernel_rfl)),f337:=Tryz.func170.trans (congrArg some (by kernel_rfl)),f338:=Tryz.func171.trans (congrArg some (by kernel_rfl)),t0:=Tryz.underlying0,a0:=Tryz.isAgg0,z0:=Tryz.sizeOf0,v0:=Tryz.zeroValue0,t2:=Tryz.underlying2,a2:=Tryz.isAgg2,z2:=Tryz.sizeOf2,v2:=Tryz.zeroValue2,t3:=Tryz.underlying3,a3:=Tryz.isAgg3,z3:=Tryz.sizeOf3,v3:=Tryz.zeroValue3,t4:=Tryz.underlying4,a4:=Tryz.isAgg4,z4:=Tryz.sizeOf4,v4:=Tryz.zeroValue4,t5:=Tryz.underlying5,a5:=Tryz.isAgg5,z5:=Tryz.sizeOf5,v5:=Tryz.zeroValue5,t9:=Tryz.underlying9,a9:=Tryz.isAgg9,z9:=Tryz.sizeOf9,v9:=Tryz.zeroValue9,t20:=Tryz.underlying20,a20:=Tryz.isAgg20,z20:=Tryz.sizeOf20,v20:=Tryz.zeroValue20,t37:=Tryz.underlying57,a37:=Tryz.isAgg57,z37:=Tryz.sizeOf57,v37:=Tryz.zeroValue57,t46:=Tryz.underlying166,a46:=Tryz.isAgg166,z46:=Tryz.sizeOf166,v46:=Tryz.zeroValue166,t51:=Tryz.underlying196,a51:=Tryz.isAgg196,z51:=Tryz.sizeOf196,v51:=Tryz.zeroValue196,t53:=Tryz.underlying198,a53:=Tryz.isAgg198,z53:=Tryz.sizeOf198,v53:=Tryz.zeroValue198,t171:=Tryz.underlying224,a171:=Tryz.isAgg224,z171:=Tryz.sizeOf224,v171:=Tryz.zeroValue224,t173:=Tryz.underlying226,a173:=Tryz.isAgg226,z173:=Tryz.sizeOf226,v173:=Tryz.zeroValue226,t212:=Tryz.underlying236,a212:=Tryz.isAgg236,z212:=Tryz.sizeOf236,v212:=Tryz.zeroValue236,t213:=Tryz.underlying237,a213:=Tryz.isAgg237,z213:=Tryz.sizeOf237,t232:=Tryz.underlying257,a232:=Tryz.isAgg257,z232:=Tryz.sizeOf257,v232:=Tryz.zeroValue257,t233:=Tryz.underlying258,a233:=Tryz.isAgg258,z233:=Tryz.sizeOf258,v233:=Tryz.zeroValue258,g17:=by kernel_rfl,g18:=by kernel_rfl,g19:=by kernel_rfl},i0:=by kernel_rfl,i2:=by kernel_rfl,i3:=by kernel_rfl,i4:=by kernel_rfl,i5:=by kernel_rfl,i9:=by kernel_rfl,i20:=by kernel_rfl,i37:=by kernel_rfl,i46:=by kernel_rfl,i51:=by kernel_rfl,i53:=by kernel_rfl,i171:=by kernel_rfl,i173:=by kernel_rfl,i212:=by kernel_rfl,i232:=by kernel_rfl,i233:=by kernel_rfl,m17:=by kernel_rfl,m18:=by kernel_rfl,m19:=by kernel_rfl}
theorem FP:Go.Proofs.Lays.n145 Tryz.prog tC:={mixed:=by kernel_rfl,f145:=Tryz.func71.trans (congrArg some (by kernel_rfl)),f217:=Tryz.func149.trans (congrArg some (by kernel_rfl)),f219:=Tryz.func133.trans (congrArg some (by kernel_rfl)),f220:=Tryz.func106.trans (congrArg some (by kernel_rfl)),f224:=Tryz.func151.trans (congrArg some (by kernel_rfl)),f225:=Tryz.func150.trans (congrArg some (by kernel_rfl)),f266:=Tryz.func162.trans (congrArg some (by kernel_rfl)),f267:=Tryz.func152.trans (congrArg some (by kernel_rfl)),f314:=Tryz.func163.trans (congrArg some (by kernel_rfl)),t3:=Tryz.underlying3,a3:=Tryz.isAgg3,z3:=Tryz.sizeOf3,v3:=Tryz.zeroValue3,t4:=Tryz.underlying4,a4:=Tryz.isAgg4,z4:=Tryz.sizeOf4,v4:=Tryz.zeroValue4,t5:=Tryz.underlying5,a5:=Tryz.isAgg5,z5:=Tryz.sizeOf5,v5:=Tryz.zeroValue5,t9:=Tryz.underlying9,a9:=Tryz.isAgg9,z9:=Tryz.sizeOf9,v9:=Tryz.zeroValue9,t46:=Tryz.underlying166,a46:=Tryz.isAgg166,z46:=Tryz.sizeOf166,v46:=Tryz.zeroValue166,t51:=Tryz.underlying196,a51:=Tryz.isAgg196,z51:=Tryz.sizeOf196,v51:=Tryz.zeroValue196,t59:=Tryz.underlying142,a59:=Tryz.isAgg142,z59:=Tryz.sizeOf142,v59:=Tryz.zeroValue142,t146:=Tryz.underlying238,a146:=Tryz.isAgg238,z146:=Tryz.sizeOf238,v146:=Tryz.zeroValue238,g1:=by kernel_rfl}
theorem Gc:Go.Proofs.Lays.n146 Tryz.prog tC:={mixed:=by kernel_rfl,f138:=Tryz.func131.trans (congrArg some (by kernel_rfl)),f143:=Tryz.func132.trans (congrArg some (by kernel_rfl)),f146:=Tryz.func69.trans (congrArg some (by kernel_rfl)),f195:=Tryz.func146.trans (congrArg some (by kernel_rfl)),f197:=Tryz.func147.trans (congrArg some (by kernel_rfl)),f217:=Tryz.func149.trans (congrArg some (by kernel_rfl)),f218:=Tryz.func148.trans (congrArg some (by kernel_rfl)),f219:=Tryz.func133.trans (congrArg some (by kernel_rfl)),f221:=Tryz.func105.trans (congrArg some (by kernel_rfl)),f224:=Tryz.func151.trans (congrArg some (by kernel_rfl)),f225:=Tryz.func150.trans (congrArg some (by kernel_rfl)),f260:=Tryz.func161.trans (congrArg some (by kernel_rfl)),f266:=Tryz.func162.trans (congrArg some (by kernel_rfl)),f267:=Tryz.func152.trans (congrArg some (by kernel_rfl)),f268:=Tryz.func130.trans (congrArg some (by kernel_rfl)),f314:=Tryz.func163.trans (congrArg some (by kernel_rfl)),t0:=Tryz.underlying0,a0:=Tryz.isAgg0,z0:=Tryz.sizeOf0,v0:=Tryz.zeroValue0,t3:=Tryz.underlying3,a3:=Tryz.isAgg3,z3:=Tryz.sizeOf3,v3:=Tryz.zeroValue3,t4:=Tryz.underlying4,a4:=Tryz.isAgg4,z4:=Tryz.sizeOf4,v4:=Tryz.zeroValue4,t5:=Tryz.underlying5,a5:=Tryz.isAgg5,z5:=Tryz.sizeOf5,v5:=Tryz.zeroValue5,t9:=Tryz.underlying9,a9:=Tryz.isAgg9,z9:=Tryz.sizeOf9,v9:=Tryz.zeroValue9,t21:=Tryz.underlying21,a21:=Tryz.isAgg21,z21:=Tryz.sizeOf21,v21:=Tryz.zeroValue21,t31:=Tryz.underlying53,a31:=Tryz.isAgg53,z31:=Tryz.sizeOf53,v31:=Tryz.zeroValue53,t46:=Tryz.underlying166,a46:=Tryz.isAgg166,z46:=Tryz.sizeOf166,v46:=Tryz.zeroValue166,t51:=Tryz.underlying196,a51:=Tryz.isAgg196,z51:=Tryz.sizeOf196,v51:=Tryz.zeroValue196,t105:=Tryz.underlying228,a105:=Tryz.isAgg228,z105:=Tryz.sizeOf228,v105:=Tryz.zeroValue228,t119:=Tryz.underlying247,a119:=Tryz.isAgg247,z119:=Tryz.sizeOf247,t138:=Tryz.underlying249,a138:=Tryz.isAgg249,z138:=Tryz.sizeOf249,v138:=Tryz.zeroValue249,t139:=Tryz.underlying250,a139:=Tryz.isAgg250,z139:=Tryz.sizeOf250,v139:=Tryz.zeroValue250,t146:=Tryz.underlying238,a146:=Tryz.isAgg238,z146:=Tryz.sizeOf238,v146:=Tryz.zeroValue238,g1:=by kernel_rfl,g3:=by kernel_rfl,g4:=by kernel_rfl}
theorem F6:Go.Proofs.Lays.n101 Tryz.prog tC:={mixed:=by kernel_rfl,f101:=Tryz.func140.trans (congrArg some (by kernel_rfl)),f206:=Tryz.func169.trans (congrArg some (by kernel_rfl)),f208:=Tryz.func156.trans (congrArg some (by kernel_rfl)),t3:=Tryz.underlying3,a3:=Tryz.isAgg3,z3:=Tryz.sizeOf3,v3:=Tryz.zeroValue3,t4:=Tryz.underlying4,a4:=Tryz.isAgg4,z4:=Tryz.sizeOf4,v4:=Tryz.zeroValue4,t9:=Tryz.underlying9,a9:=Tryz.isAgg9,z9:=Tryz.sizeOf9,v9:=Tryz.zeroValue9}
theorem pJ:Go.Proofs.LaysC.n172 Tryz.prog tC:={toM:={ton172:={mixed:=by kernel_rfl,f129:=Tryz.func120.trans (congrArg some (by kernel_rfl)),f171:=Tryz.func61.trans (congrArg some (by kernel_rfl)),f172:=Tryz.func139.trans (congrArg some (by kernel_rfl)),f205:=Tryz.func174.trans (congrArg some (by kernel_rfl)),f243:=Tryz.func104.trans (congrArg some (by kernel_rfl)),f244:=Tryz.func154.trans (congrArg some (by kernel_rfl)),f245:=Tryz.func155.trans (congrArg some (by kernel_rfl)),f246:=Tryz.func129.trans (congrArg some (by kernel_rfl)),f247:=Tryz.func164.trans (congrArg some (by kernel_rfl)),f279:=Tryz.func165.trans (congrArg some (by kernel_rfl)),f280:=Tryz.func166.trans (congrArg some (by kernel_rfl)),f281:=Tryz.func167.trans (congrArg some (by kernel_rfl)),f282:=Tryz.func168.trans (congrArg some (by kernel_rfl)),f283:=Tryz.func142.trans (congrArg some (by kernel_rfl)),f284:=Tryz.func143.trans (congrArg some (by kernel_rfl)),f285:=Tryz.func144.trans (congrArg some (by kernel_rfl)),f286:=Tryz.func145.trans (congrArg some (by kernel_rfl)),f287:=Tryz.func172.trans (congrArg some (by kernel_rfl)),f316:=Tryz.func173.trans (congrArg some (by kernel_rfl)),f317:=Tryz.func157.trans (congrArg some (by kernel_rfl)),f318:=Tryz.func158.trans (congrArg some (by kernel_rfl)),f319:=Tryz.func159.trans (congrArg some (by kernel_rfl)),f320:=Tryz.func160.trans (congrArg some (by kernel_rfl)),f321:=Tryz.func175.trans (congrArg some (by kernel_rfl)),f322:=Tryz.func176.trans (congrArg some (by kernel_rfl)),f337:=Tryz.func170.trans (congrArg some (by kernel_rfl)),f338:=Tryz.func171.trans (congrArg some (by kernel_rfl)),t0:=Tryz.underlying0,a0:=Tryz.isAgg0,z0:=Tryz.sizeOf0,v0:=Tryz.zeroValue0,t2:=Tryz.underlying2,a2:=Tryz.isAgg2,z2:=Tryz.sizeOf2,v2:=Tryz.zeroValue2,t3:=Tryz.underlying3,a3:=Tryz.isAgg3,z3:=Tryz.sizeOf3,v3:=Tryz.zeroValue3,t4:=Tryz.underlying4,a4:=Tryz.isAgg4,z4:=Tryz.sizeOf4,v4:=Tryz.zeroValue4,t5:=Tryz.underlying5,a5:=Tryz.isAgg5,z5:=Tryz.sizeOf5,v5:=Tryz.zeroValue5,t9:=Tryz.underlying9,a9:=Tryz.isAgg9,z9:=Tryz.sizeOf9,v9:=Tryz.zeroValue9,t20:=Tryz.underlying20,a20:=Tryz.isAgg20,z20:=Tryz.sizeOf20,v20:=Tryz.zeroValue20,t21:=Tryz.underlying21,a21:=Tryz.isAgg21,z21:=Tryz.sizeOf21,v21:=Tryz.zeroValue21,t37:=Tryz.underlying57,a37:=Tryz.isAgg57,z37:=Tryz.sizeOf57,v37:=Tryz.zeroValue57,t46:=Tryz.underlying166,a46:=Tryz.isAgg166,z46:=Tryz.sizeOf166,v46:=Tryz.zeroValue166,t51:=Tryz.underlying196,a51:=Tryz.isAgg196,z51:=Tryz.sizeOf196,v51:=Tryz.zeroValue196,t53:=Tryz.underlying198,a53:=Tryz.isAgg198,z53:=Tryz.sizeOf198,v53:=Tryz.zeroValue198,t75:=Tryz.underlying122,a75:=Tryz.isAgg122,z75:=Tryz.sizeOf122,v75:=Tryz.zeroValue122,t76:=Tryz.underlying124,a76:=Tryz.isAgg124,z76:=Tryz.sizeOf124,v76:=Tryz.zeroValue124,t85:=Tryz.underlying241,a85:=Tryz.isAgg241,z85:=Tryz.sizeOf241,v85:=Tryz.zeroValue241,t127:=Tryz.underlying183,a127:=Tryz.isAgg183,z127:=Tryz.sizeOf183,v127:=Tryz.zeroValue183,t143:=Tryz.underlying261,a143:=Tryz.isAgg261,z143:=Tryz.sizeOf261,v143:=Tryz.zeroValue261,t145:=Tryz.underlying263,a145:=Tryz.isAgg263,z145:=Tryz.sizeOf263,v145:=Tryz.zeroValue263,t167:=Tryz.underlying240,a167:=Tryz.isAgg240,z167:=Tryz.sizeOf240,v167:=Tryz.zeroValue240,t168:=Tryz.underlying243,a168:=Tryz.isAgg243,z168:=Tryz.sizeOf243,v168:=Tryz.zeroValue243,t171:=Tryz.underlying224,a171:=Tryz.isAgg224,z171:=Tryz.sizeOf224,v171:=Tryz.zeroValue224,t173:=Tryz.underlying226,a173:=Tryz.isAgg226,z173:=Tryz.sizeOf226,v173:=Tryz.zeroValue226,t175:=Tryz.underlying251,a175:=Tryz.isAgg251,z175:=Tryz.sizeOf251,v175:=Tryz.zeroValue251,t210:=Tryz.underlying255,a210:=Tryz.isAgg255,z210:=Tryz.sizeOf255,v210:=Tryz.zeroValue255,t212:=Tryz.underlying236,a212:=Tryz.isAgg236,z212:=Tryz.sizeOf236,v212:=Tryz.zeroValue236,t213:=Tryz.underlying237,a213:=Tryz.isAgg237,z213:=Tryz.sizeOf237,t232:=Tryz.underlying257,a232:=Tryz.isAgg257,z232:=Tryz.sizeOf257,v232:=Tryz.zeroValue257,t233:=Tryz.underlying258,a233:=Tryz.isAgg258,z233:=Tryz.sizeOf258,v233:=Tryz.zeroValue258,g15:=by kernel_rfl,g16:=by kernel_rfl,g17:=by kernel_rfl,g18:=by kernel_rfl,g19:=by kernel_rfl},t80:=Tryz.underlying133,a80:=Tryz.isAgg133,z80:=Tryz.sizeOf133,v80:=Tryz.zeroValue133,i0:=by kernel_rfl,i2:=by kernel_rfl,i3:=by kernel_rfl,i4:=by kernel_rfl,i5:=by kernel_rfl,i9:=by kernel_rfl,i20:=by kernel_rfl,i21:=by kernel_rfl,i37:=by kernel_rfl,i46:=by kernel_rfl,i51:=by kernel_rfl,i53:=by kernel_rfl,i75:=by kernel_rfl,i76:=by kernel_rfl,i80:=by kernel_rfl,i85:=by kernel_rfl,i127:=by kernel_rfl,i143:=by kernel_rfl,i145:=by kernel_rfl,i167:=by kernel_rfl,i168:=by kernel_rfl,i171:=by kernel_rfl,i173:=by kernel_rfl,i175:=by kernel_rfl,i210:=by kernel_rfl,i212:=by kernel_rfl,i232:=by kernel_rfl,i233:=by kernel_rfl,m15:=by kernel_rfl,m16:=by kernel_rfl,m17:=by kernel_rfl,m18:=by kernel_rfl,m19:=by kernel_rfl},c0:=by kernel_rfl,c2:=by kernel_rfl,c3:=by kernel_rfl,c4:=by kernel_rfl,c5:=by kernel_rfl,c9:=by kernel_rfl,c20:=by kernel_rfl,c21:=by kernel_rfl,c37:=by kernel_rfl,c46:=by kernel_rfl,c51:=by kernel_rfl,c53:=by kernel_rfl,c75:=by kernel_rfl,c76:=by kernel_rfl,c80:=by kernel_rfl,c85:=by kernel_rfl,c127:=by kernel_rfl,c143:=by kernel_rfl,c145:=by kernel_rfl,c167:=by kernel_rfl,c168:=by kernel_rfl,c171:=by kernel_rfl,c173:=by kernel_rfl,c175:=by kernel_rfl,c210:=by kernel_rfl,c212:=by kernel_rfl,c213:=by kernel_rfl,c232:=by kernel_rfl,c233:=by kernel_rfl}
theorem lS:Go.Proofs.Builder.Extra Tryz.prog tC:={toX72:={sizeBuilder:=by kernel_rfl,liesBuilder:=by kernel_rfl},t5:=Tryz.underlying5,a5:=Tryz.isAgg5,z5:=Tryz.sizeOf5,v5:=Tryz.zeroValue5,infoByte:=by kernel_rfl,cellsByte:=by kernel_rfl,sizeByte:=by kernel_rfl,neB5:=by decide}
end Sg

namespace Sg
open Go Go.Proofs Go.RowKit Go.ChangeMaps
def AD (w' w:World):Prop:=w'.heap=w.heap/\w'.os=w.os/\w'.tape=w.tape/\w'.output=w.output
theorem AD.refl (w:World):AD w w:=⟨rfl,rfl,rfl,rfl⟩
theorem AD.trans {a b c:World} (h:AD a b) (g:AD b c):AD a c:=⟨h.1.trans g.1,h.2.1.trans g.2.1,h.2.2.1.trans g.2.2.1,h.2.2.2.trans g.2.2.2⟩
theorem AD.below {w' w:World} (h:AD w' w) (B:Nat):Below B w w':=⟨h.2.1,h.2.2.1,h.2.2.2,by rw [h.1];exact cx _,fun _ _=>by rw [h.1]⟩
section
variable {P:Program} {w w':World} {mty kt et:TypeId} {d:TypeDesc} {r:Nat} {es:Array MapEntry} {clock:Nat}
theorem Ao {key value:Value} (hm:P.underlying mty=some (.map kt et)) (hd:P.underlying kt=some d) (hb:w.heap[r]? =some (.map es clock))
  (hk:MapKept.IsKey d key) (hn:Instr.findNow d key es.toList 0=some none):
  (Instr.mapUpdate mty (.map (some r)) key value).run P w= .ok () {w with heap:=w.heap.setIfInBounds r (.map (es.push {key,val:=value,born:=clock}) (clock+1))}:=by
 simp [Instr.mapUpdate,run_underlying hm,MapKept.run_getObj_map hb,MapKept.run_checkKey hd hk,MapKept.run_findKey hd hn,MapKept.run_setObj_map _ hb,Result.andThen]
theorem pu (w:World) (o o':Obj):setBlock (w.alloc o) w.heap.size o'=w.alloc o':=by
 have e:(w.heap.push o).setIfInBounds w.heap.size o'=w.heap.push o':=by
  apply Array.ext_getElem?;intro i;rw [eI,eK,eK];by_cases h:w.heap.size=i;·subst h;simp
  ·rw [ce h,ce (Ne.symm h),ce (Ne.symm h)]
 show({heap:=(w.heap.push o).setIfInBounds w.heap.size o',tape:=w.tape,drawn:=w.drawn,os:=w.os,output:=w.output}:World)={heap:=w.heap.push o',tape:=w.tape,drawn:=w.drawn,os:=w.os,output:=w.output};rw [e]
theorem gV {key value:Value} (hm:P.underlying mty=some (.map kt et)) (hd:P.underlying kt=some d)
  (hk:MapKept.IsKey d key) (hn:Instr.findNow d key es.toList 0=some none):
  (Instr.mapUpdate mty (.map (some w.heap.size)) key value).run P (w.alloc (.map es clock))= .ok () (w.alloc (.map (es.push {key,val:=value,born:=clock}) (clock+1))):=by
 rw [Ao hm hd (heap_alloc_new w _) hk hn];exact congrArg (Result.ok ()) (pu w _ _)
theorem xQ (w:World) (ty:TypeId) (bm since c0:Nat) (seen:Array Nat) (es:Array MapEntry) (clock:Nat) (hb:w.heap[bm]? =some (.map es clock)) (hold: ∀x∈es.toList,x.born<since) (hsc:since<=c0):
  ((leftOf es seen).size=0/\(Instr.next (.pointer (some ⟨w.heap.size,0,none⟩)) false ty).run P (w.alloc (.mapIter (some bm) since seen c0))= .ok (.tuple #[.bool false]) (w.alloc (.mapIter (some bm) since seen c0)))\/
  ∃e∈(leftOf es seen).toList,∃w1:World,AD w1 w/\(Instr.next (.pointer (some ⟨w.heap.size,0,none⟩)) false ty).run P (w.alloc (.mapIter (some bm) since seen c0))= .ok (.tuple #[.bool true,e.key,e.val]) (w1.alloc (.mapIter (some bm) since (seen.push e.born) clock)):=by
 have hlt:bm<w.heap.size:=by
  rcases Nat.lt_or_ge bm w.heap.size with h|h;·exact h
  ·simp [Array.getElem?_eq_none h]at hb
 have hb':(w.alloc (.mapIter (some bm) since seen c0)).heap[bm]? =some (.map es clock):=by rw [heap_alloc_old w _ hlt,hb]
 rcases run_next_at (P:=P) (w.alloc (.mapIter (some bm) since seen c0)) ty w.heap.size bm since c0 seen es clock (heap_alloc_new w _) hb' hold hsc with⟨h0,h⟩|⟨e,he,w1,hw1,h⟩;·exact .inl ⟨h0,h⟩
 ·refine .inr ⟨e,he, ?_⟩;rcases hw1 with rfl|rfl
  ·rw [pu]at h;exact⟨w, .refl w,h⟩
  ·have e1:setBlock (w.alloc (.mapIter (some bm) since seen c0)).drew w.heap.size (.mapIter (some bm) since (seen.push e.born) clock)=w.drew.alloc (.mapIter (some bm) since (seen.push e.born) clock):=pu w.drew _ _;rw [e1]at h;exact⟨w.drew,⟨rfl,rfl,rfl,rfl⟩,h⟩
end
def fI (a b c:List UInt8):Array MapEntry:= #[⟨.string (sb a), .int .i64 1,0⟩,⟨.string (sb b), .int .i64 2,1⟩,⟨.string (sb c), .int .i64 3,2⟩]
set_option maxHeartbeats 1000000 in
theorem Ae (w:World):Calls Tryz.prog 63 #[] w fun e w'=>e= .returned (.map (some w.heap.size))/\w'=w.alloc (.map (fI tQ Cz CG) 3):=by
 have hmk:(Instr.makeMap 128 none).run Tryz.prog w= .ok (.map (some w.heap.size)) (w.alloc (.map #[] 0)):=by
  simp [Instr.makeMap,run_underlying Tryz.underlying128]
 have h1:(Instr.mapUpdate 128 (.map (some w.heap.size)) (.string ⟨#[103,114,105,100]⟩) (.int .i64 1)).run Tryz.prog (w.alloc (.map #[] 0))= .ok () (w.alloc (.map #[⟨.string ⟨#[103,114,105,100]⟩, .int .i64 1,0⟩] 1)):=
  gV (P:=Tryz.prog) (w:=w) (mty:=128) (es:= #[]) (clock:=0) (key:= .string ⟨#[103,114,105,100]⟩) (value:= .int .i64 1) Tryz.underlying128 Tryz.underlying9 trivial rfl
 have h2:(Instr.mapUpdate 128 (.map (some w.heap.size)) (.string ⟨#[103,101,110,101,114,97,116,111,114]⟩) (.int .i64 2)).run Tryz.prog (w.alloc (.map #[⟨.string ⟨#[103,114,105,100]⟩, .int .i64 1,0⟩] 1))= .ok () (w.alloc (.map #[⟨.string ⟨#[103,114,105,100]⟩, .int .i64 1,0⟩,⟨.string ⟨#[103,101,110,101,114,97,116,111,114]⟩, .int .i64 2,1⟩] 2)):=
  gV (P:=Tryz.prog) (w:=w) (mty:=128) (es:= #[⟨.string ⟨#[103,114,105,100]⟩, .int .i64 1,0⟩]) (clock:=1) (key:= .string ⟨#[103,101,110,101,114,97,116,111,114]⟩) (value:= .int .i64 2) Tryz.underlying128 Tryz.underlying9 trivial rfl
 have h3:(Instr.mapUpdate 128 (.map (some w.heap.size)) (.string ⟨#[98,97,116,116,101,114,121]⟩) (.int .i64 3)).run Tryz.prog (w.alloc (.map #[⟨.string ⟨#[103,114,105,100]⟩, .int .i64 1,0⟩,⟨.string ⟨#[103,101,110,101,114,97,116,111,114]⟩, .int .i64 2,1⟩] 2))= .ok () (w.alloc (.map #[⟨.string ⟨#[103,114,105,100]⟩, .int .i64 1,0⟩,⟨.string ⟨#[103,101,110,101,114,97,116,111,114]⟩, .int .i64 2,1⟩,⟨.string ⟨#[98,97,116,116,101,114,121]⟩, .int .i64 3,2⟩] 3)):=
  gV (P:=Tryz.prog) (w:=w) (mty:=128) (es:= #[⟨.string ⟨#[103,114,105,100]⟩, .int .i64 1,0⟩,⟨.string ⟨#[103,101,110,101,114,97,116,111,114]⟩, .int .i64 2,1⟩]) (clock:=2) (key:= .string ⟨#[98,97,116,116,101,114,121]⟩) (value:= .int .i64 3) Tryz.underlying128 Tryz.underlying9 trivial rfl
 go_enter Tryz.func63,Tryz.ntmps63
 go_wp2
 go_ret
 exact⟨rfl,rfl⟩
set_option maxHeartbeats 1000000 in
theorem CS (w:World):Calls Tryz.prog 65 #[] w fun e w'=>e= .returned (.map (some w.heap.size))/\w'=w.alloc (.map (fI BA BL BN) 3):=by
 have hmk:(Instr.makeMap 131 none).run Tryz.prog w= .ok (.map (some w.heap.size)) (w.alloc (.map #[] 0)):=by
  simp [Instr.makeMap,run_underlying Tryz.underlying131]
 have h1:(Instr.mapUpdate 131 (.map (some w.heap.size)) (.string ⟨#[99,97,98,108,101]⟩) (.int .i64 1)).run Tryz.prog (w.alloc (.map #[] 0))= .ok () (w.alloc (.map #[⟨.string ⟨#[99,97,98,108,101]⟩, .int .i64 1,0⟩] 1)):=
  gV (P:=Tryz.prog) (w:=w) (mty:=131) (es:= #[]) (clock:=0) (key:= .string ⟨#[99,97,98,108,101]⟩) (value:= .int .i64 1) Tryz.underlying131 Tryz.underlying9 trivial rfl
 have h2:(Instr.mapUpdate 131 (.map (some w.heap.size)) (.string ⟨#[115,119,105,116,99,104]⟩) (.int .i64 2)).run Tryz.prog (w.alloc (.map #[⟨.string ⟨#[99,97,98,108,101]⟩, .int .i64 1,0⟩] 1))= .ok () (w.alloc (.map #[⟨.string ⟨#[99,97,98,108,101]⟩, .int .i64 1,0⟩,⟨.string ⟨#[115,119,105,116,99,104]⟩, .int .i64 2,1⟩] 2)):=
  gV (P:=Tryz.prog) (w:=w) (mty:=131) (es:= #[⟨.string ⟨#[99,97,98,108,101]⟩, .int .i64 1,0⟩]) (clock:=1) (key:= .string ⟨#[115,119,105,116,99,104]⟩) (value:= .int .i64 2) Tryz.underlying131 Tryz.underlying9 trivial rfl
 have h3:(Instr.mapUpdate 131 (.map (some w.heap.size)) (.string ⟨#[98,114,101,97,107,101,114]⟩) (.int .i64 3)).run Tryz.prog (w.alloc (.map #[⟨.string ⟨#[99,97,98,108,101]⟩, .int .i64 1,0⟩,⟨.string ⟨#[115,119,105,116,99,104]⟩, .int .i64 2,1⟩] 2))= .ok () (w.alloc (.map #[⟨.string ⟨#[99,97,98,108,101]⟩, .int .i64 1,0⟩,⟨.string ⟨#[115,119,105,116,99,104]⟩, .int .i64 2,1⟩,⟨.string ⟨#[98,114,101,97,107,101,114]⟩, .int .i64 3,2⟩] 3)):=
  gV (P:=Tryz.prog) (w:=w) (mty:=131) (es:= #[⟨.string ⟨#[99,97,98,108,101]⟩, .int .i64 1,0⟩,⟨.string ⟨#[115,119,105,116,99,104]⟩, .int .i64 2,1⟩]) (clock:=2) (key:= .string ⟨#[98,114,101,97,107,101,114]⟩) (value:= .int .i64 3) Tryz.underlying131 Tryz.underlying9 trivial rfl
 go_enter Tryz.func65,Tryz.ntmps65
 go_wp2
 go_ret
 exact⟨rfl,rfl⟩
theorem Cu (a b c:List UInt8) (want:Int):(∀x∈(fI a b c).toList,∃s v,x.key= .string s/\x.val= .int .i64 v/\(v=want->sb (xK a b c want)=s))/\
  ((∀x∈(fI a b c).toList,x.val≠ .int .i64 want)->sb (xK a b c want)=sb []):=by
 refine⟨fun x hx=> ?_,fun h=> ?_⟩
 ·simp only [fI,eh,List.not_mem_nil,or_false]at hx;rcases hx with rfl|rfl|rfl
  ·exact⟨_,_,rfl,rfl,fun e=>by subst e;rfl⟩
  ·exact⟨_,_,rfl,rfl,fun e=>by subst e;rfl⟩
  ·exact⟨_,_,rfl,rfl,fun e=>by subst e;rfl⟩
 ·have h1:=h ⟨.string (sb a), .int .i64 1,0⟩ (by simp [fI]);have h2:=h ⟨.string (sb b), .int .i64 2,1⟩ (by simp [fI]);have h3:=h ⟨.string (sb c), .int .i64 3,2⟩ (by simp [fI]);unfold xK;rw [ce (fun e=>h1 (by rw [e])),ce (fun e=>h2 (by rw [e])),ce (fun e=>h3 (by rw [e]))]
theorem Cx (a b c:List UInt8): ∀x∈(fI a b c).toList,x.born<3:=fun x hx=>by
 simp only [fI,eh,List.not_mem_nil,or_false]at hx;rcases hx with rfl|rfl|rfl;·exact(by decide:(0:Nat)<3)
 ·exact(by decide:(1:Nat)<3)
 ·exact(by decide:(2:Nat)<3)
theorem Ai (a b c:List UInt8):((fI a b c).toList.map (·.born)).Nodup:=by simp [fI]
set_option maxRecDepth 1000000 in
set_option maxHeartbeats 1000000 in
theorem Ty (bm:Nat) (a b c:List UInt8) (want:Int) (w:World) (hb:w.heap[bm]? =some (.map (fI a b c) 3)):
  Calls Tryz.prog 62 #[.map (some bm), .int .i64 want] w fun e w'=>e= .returned (.string (sb (xK a b c want)))/\ ∃(w1:World) (seen:Array Nat),AD w1 w/\w'=w1.alloc (.mapIter (some bm) 3 seen 3):=by
 obtain⟨hkv,hno0⟩:=Cu a b c want;have hst:MapKept.Stamped (fI a b c) 3\/True:= .inr trivial;have hold: ∀x∈(fI a b c).toList,x.born<3:=Cx a b c;have hnd:((fI a b c).toList.map (·.born)).Nodup:=Ai a b c;generalize fI a b c=es at hb hkv hno0 hold hnd;generalize sb (xK a b c want)=ans at hkv hno0 ⊢;have hrg:=run_range_map (P:=Tryz.prog) w 128 9 65 bm es 3 Tryz.underlying128 hb
 go_enter Tryz.func62,Tryz.ntmps62
 go_wp2
 go_loopw [] (fun w'=> ∃(w1:World) (seen:Array Nat),AD w1 w/\w'=w1.alloc (.mapIter (some bm) 3 seen 3)/\ ∀x∈es.toList,seen.contains x.born=true->x.val≠ .int .i64 want) (fun w'=>(leftOf es (w'.iterSeen w.heap.size)).size)
 case atStart=>exact⟨w, #[], .refl w,rfl,fun x _ h=>by simp at h⟩
 case round=>
  obtain⟨w1,seen,hal,rfl,hno⟩:=hrel;have hsz:w1.heap.size=w.heap.size:=by rw [hal.1]
  have hb1:w1.heap[bm]? =some (.map es 3):=by rw [hal.1];exact hb
  have law:=xQ (P:=Tryz.prog) w1 0 bm 3 3 seen es 3 hb1 hold (cx _);rw [hsz]at law;rcases law with⟨h0,hrun⟩|⟨e,he,w2,hal2,hrun⟩
  ·have hnx: ∀ty,(Instr.next (.pointer (some ⟨w.heap.size,0,none⟩)) false ty).run Tryz.prog (w1.alloc (.mapIter (some bm) 3 seen 3))=_:=fun _=>hrun;go_wp2
   go_ret
   have hf:ans=sb []:=hno0 fun x hx=>hno x hx (all_seen es seen h0 x hx);rw [hf];exact⟨rfl,w1,seen,hal,rfl⟩
  ·obtain⟨s,v,hkey,hval,hsv⟩:=hkv e (mem_left he).1;rw [hval,hkey]at hrun;have hnx: ∀ty,(Instr.next (.pointer (some ⟨w.heap.size,0,none⟩)) false ty).run Tryz.prog (w1.alloc (.mapIter (some bm) 3 seen 3))=_:=fun _=>hrun;have hsz2:w2.heap.size=w.heap.size:=by rw [hal2.1,hal.1]
   have hb2:w2.heap[bm]? =some (.map es 3):=by rw [hal2.1];exact hb1
   have hen:=run_entry_map (P:=Tryz.prog) w2 bm 3 seen es 3 e hb2 (mem_left he).1 hnd;rw [hsz2,hval,hkey]at hen;have hal3:AD w2 w:=hal2.trans hal;go_wp2
   ·rename_i heq
    go_ret
    have ht:ans=s:=hsv (by simpa using heq);rw [ht];exact⟨rfl,w2,_,hal3,rfl⟩
   ·rename_i hne
    go_roundw
    case rel=>
     refine⟨w2,seen.push e.born,hal3,rfl,fun x hx hc=> ?_⟩;rw [contains_push]at hc;rcases cN _ _ ▸ hc with h1|h1;·exact hno x hx h1
     ·have:x=e:=born_inj hnd hx (mem_left he).1 (beq_iff_eq.1 h1);subst this;rw [hval];intro hh;injection hh with _ hh;simp [hh]at hne
    case measure=>
     rw [<-hsz2,World.iterSeen_alloc,hsz2,<-hsz,World.iterSeen_alloc];exact left_shrinks es seen e he
set_option maxRecDepth 1000000 in
set_option maxHeartbeats 1000000 in
theorem Uz (bm:Nat) (a b c:List UInt8) (want:Int) (w:World) (hb:w.heap[bm]? =some (.map (fI a b c) 3)):
  Calls Tryz.prog 64 #[.map (some bm), .int .i64 want] w fun e w'=>e= .returned (.string (sb (xK a b c want)))/\ ∃(w1:World) (seen:Array Nat),AD w1 w/\w'=w1.alloc (.mapIter (some bm) 3 seen 3):=by
 obtain⟨hkv,hno0⟩:=Cu a b c want;have hst:MapKept.Stamped (fI a b c) 3\/True:= .inr trivial;have hold: ∀x∈(fI a b c).toList,x.born<3:=Cx a b c;have hnd:((fI a b c).toList.map (·.born)).Nodup:=Ai a b c;generalize fI a b c=es at hb hkv hno0 hold hnd;generalize sb (xK a b c want)=ans at hkv hno0 ⊢;have hrg:=run_range_map (P:=Tryz.prog) w 131 9 68 bm es 3 Tryz.underlying131 hb
 go_enter Tryz.func64,Tryz.ntmps64
 go_wp2
 go_loopw [] (fun w'=> ∃(w1:World) (seen:Array Nat),AD w1 w/\w'=w1.alloc (.mapIter (some bm) 3 seen 3)/\ ∀x∈es.toList,seen.contains x.born=true->x.val≠ .int .i64 want) (fun w'=>(leftOf es (w'.iterSeen w.heap.size)).size)
 case atStart=>exact⟨w, #[], .refl w,rfl,fun x _ h=>by simp at h⟩
 case round=>
  obtain⟨w1,seen,hal,rfl,hno⟩:=hrel;have hsz:w1.heap.size=w.heap.size:=by rw [hal.1]
  have hb1:w1.heap[bm]? =some (.map es 3):=by rw [hal.1];exact hb
  have law:=xQ (P:=Tryz.prog) w1 0 bm 3 3 seen es 3 hb1 hold (cx _);rw [hsz]at law;rcases law with⟨h0,hrun⟩|⟨e,he,w2,hal2,hrun⟩
  ·have hnx: ∀ty,(Instr.next (.pointer (some ⟨w.heap.size,0,none⟩)) false ty).run Tryz.prog (w1.alloc (.mapIter (some bm) 3 seen 3))=_:=fun _=>hrun;go_wp2
   go_ret
   have hf:ans=sb []:=hno0 fun x hx=>hno x hx (all_seen es seen h0 x hx);rw [hf];exact⟨rfl,w1,seen,hal,rfl⟩
  ·obtain⟨s,v,hkey,hval,hsv⟩:=hkv e (mem_left he).1;rw [hval,hkey]at hrun;have hnx: ∀ty,(Instr.next (.pointer (some ⟨w.heap.size,0,none⟩)) false ty).run Tryz.prog (w1.alloc (.mapIter (some bm) 3 seen 3))=_:=fun _=>hrun;have hsz2:w2.heap.size=w.heap.size:=by rw [hal2.1,hal.1]
   have hb2:w2.heap[bm]? =some (.map es 3):=by rw [hal2.1];exact hb1
   have hen:=run_entry_map (P:=Tryz.prog) w2 bm 3 seen es 3 e hb2 (mem_left he).1 hnd;rw [hsz2,hval,hkey]at hen;have hal3:AD w2 w:=hal2.trans hal;go_wp2
   ·rename_i heq
    go_ret
    have ht:ans=s:=hsv (by simpa using heq);rw [ht];exact⟨rfl,w2,_,hal3,rfl⟩
   ·rename_i hne
    go_roundw
    case rel=>
     refine⟨w2,seen.push e.born,hal3,rfl,fun x hx hc=> ?_⟩;rw [contains_push]at hc;rcases cN _ _ ▸ hc with h1|h1;·exact hno x hx h1
     ·have:x=e:=born_inj hnd hx (mem_left he).1 (beq_iff_eq.1 h1);subst this;rw [hval];intro hh;injection hh with _ hh;simp [hh]at hne
    case measure=>
     rw [<-hsz2,World.iterSeen_alloc,hsz2,<-hsz,World.iterSeen_alloc];exact left_shrinks es seen e he
end Sg

namespace Sg
open Go Go.Proofs Go.RowKit Go.ChangeMaps
def SI:Wd->Value
 | .n i=> .iface 3 (.int .i64 i)
 | .s l=> .iface 9 (.string (sb l))
def I9:Wd->Prop
 | .n i=> -9223372036854775808<=i/\i<=9223372036854775807
 | .s _=>True
theorem M8 (l:List Wd): ∀{i j:Nat},i<=j->(rD l i).length<=(rD l j).length
 |i,0,h=>by
   have:i=0:=by omega
   subst this;exact cx _
 |i,j+1,h=>by
  rcases Nat.lt_or_ge i (j+1)with h'|h'
  ·refine dC (M8 l (Nat.le_of_lt_succ h')) ?_;rw [show rD l (j+1)=rD l j++((if 0<j then [32]else [])++YB (l.getD j default))from rfl,b_];omega
  ·have:i=j+1:=by omega
   subst this;exact cx _
theorem jB {T e:TypeId} {B b:Nat} {bs:List Value} {W W':World} (h:Lib.IsBuilderF T e B b bs W) (hb:Below W.heap.size W W'):Lib.IsBuilderF T e B b bs W':=by
 have hl: ∀{k:Nat} {o:Obj},W.heap[k]? =some o->W'.heap[k]? =some o:=fun{k o} e=>by
  rw [hb.block k ((Nat.lt_or_ge k W.heap.size).elim id fun h=>by simp [Array.getElem?_eq_none h]at e)];exact e
 have key: ∀p,Lib.BuilderAtF T e B b p bs W->Lib.BuilderAtF T e B b p bs W':=by
  rintro p ⟨h1,v,h2,⟨h3,h4⟩,h5⟩;refine⟨h1,v,hl h2,⟨h3, ?_⟩,h5⟩;rcases h4 with h4|⟨g,cap,cur,fz,q1,q2,q3,q4⟩;·exact .inl h4
  ·exact .inr ⟨g,cap,cur,fz,q1,q2,hl q3,q4⟩
 exact h.imp (key _) (key _)
theorem EQ {e:TypeId} {b:Option Nat} {W W':World} (hb:Below W.heap.size W W'):Lib.OthersKept e b W W':=fun k o h _ _=>by
 rw [hb.block k ((Nat.lt_or_ge k W.heap.size).elim id fun h'=>by simp [Array.getElem?_eq_none h']at h)];exact h
theorem Lr (w:World) (k:Nat) (os:Array Obj):Below w.heap.size w (Go.Sort.grow (w.drewN k) os):=
 ⟨rfl,rfl,rfl,by show _<=(w.heap++os).size;simp,fun i hi=>by show(w.heap++os)[i]? =_;simp [Array.getElem?_append,hi]⟩
def zi (B:Nat) (w:World):Prop:= ∀w',Below B w w'->Lib.TabIs Tryz.prog w' "internal/strconv.uint64pow10" .u64 Lib.pow10Tab
theorem zi.on {B:Nat} {w w1:World} (h:zi B w) (hb:Below B w w1):zi B w1:=fun w' h'=>h w' (hb.trans h')
theorem zi.here {B:Nat} {w:World} (h:zi B w):Lib.TabIs Tryz.prog w "internal/strconv.uint64pow10" .u64 Lib.pow10Tab:=h w (.refl _ _)
theorem kZ (n:Int) (h0: -9223372036854775808<=n) (h1:n<=9223372036854775807) (w:World) (htab:Lib.TabIs Tryz.prog w "internal/strconv.uint64pow10" .u64 Lib.pow10Tab):
  Calls Tryz.prog 61 #[.int .i64 n] w fun e w'=>e= .returned (.string (sb (Lib.itoa n)))/\Below w.heap.size w w':=
 (Any.strconv_Itoa DN n h0 h1 w htab).mono fun e w' ⟨he,k,os,hw⟩=> ⟨he,hw ▸ Lr w k os⟩
theorem tL (B b:Nat) (bs:List UInt8) (c:UInt8) (w:World) (h:Lib.IsBuilderF 119 5 B b (Lib.byteCells bs) w) (hlen:bs.length+1<=140737488355328) (hBw:B<=w.heap.size):
  Calls Tryz.prog 59 #[.pointer (some ⟨b,0,none⟩), .int .u8 c.toNat] w fun e w'=>e= .returned .nilIface/\Lib.IsBuilderF 119 5 B b (Lib.byteCells (bs++[c])) w'/\Below B w w'/\Lib.OthersKept 5 (some b) w w':=
 (Any.Builder_WriteByte_k FY lS B b (Lib.byteCells bs) c.toNat w h (by rw [Lib.byteCells_length];exact hlen) hBw).mono fun e w' ⟨he,h1,h2,h3⟩=>
  ⟨he, .inr (by rw [Lib.byteCells_append];exact h1),h2,h3⟩
theorem jM (B b:Nat) (bs s:List UInt8) (w:World) (h:Lib.IsBuilderF 119 5 B b (Lib.byteCells bs) w) (hlen:bs.length+s.length<=140737488355328) (hBw:B<=w.heap.size):
  Calls Tryz.prog 60 #[.pointer (some ⟨b,0,none⟩), .string (sb s)] w fun e w'=>e= .returned (.tuple #[.int .i64 s.length, .nilIface])/\Lib.IsBuilderF 119 5 B b (Lib.byteCells (bs++s)) w'/\Below B w w'/\Lib.OthersKept 5 (some b) w w':=
 (Any.Builder_WriteString_k F7 lS B b (Lib.byteCells bs) (sb s) w h (by rw [Lib.byteCells_length];exact hlen) hBw).mono fun e w' ⟨he,h1,h2,h3⟩=>
  ⟨he, .inr (by rw [Lib.byteCells_append];rw [Lib.strCells_eq]at h1;exact h1),h2,h3⟩
theorem J9 (B b:Nat) (bs:List UInt8) (w:World) (h:Lib.IsBuilderF 119 5 B b (Lib.byteCells bs) w) (hlen:bs.length+1<=140737488355328) (hBw:B<=w.heap.size):
  Calls Tryz.prog 59 #[.pointer (some ⟨b,0,none⟩), .int .u8 32] w fun e w'=>e= .returned .nilIface/\Lib.IsBuilderF 119 5 B b (Lib.byteCells (bs++[32])) w'/\Below B w w'/\Lib.OthersKept 5 (some b) w w':=
 tL B b bs 32 w h hlen hBw
theorem Qd (B b:Nat) (bs:List UInt8) (w:World) (h:Lib.IsBuilderF 119 5 B b (Lib.byteCells bs) w) (hlen:bs.length+1<=140737488355328) (hBw:B<=w.heap.size):
  Calls Tryz.prog 59 #[.pointer (some ⟨b,0,none⟩), .int .u8 10] w fun e w'=>e= .returned .nilIface/\Lib.IsBuilderF 119 5 B b (Lib.byteCells (bs++[10])) w'/\Below B w w'/\Lib.OthersKept 5 (some b) w w':=
 tL B b bs 10 w h hlen hBw
theorem Yo (v:Value) (W:World):(Instr.typeAssert (.iface 3 v) 20 3 true).run Tryz.prog W= .ok (.tuple #[v, .bool true]) W:=by
 simp [Instr.typeAssert,run_underlying Tryz.underlying3]
theorem UN (v:Value) (W:World):(Instr.typeAssert (.iface 9 v) 20 3 true).run Tryz.prog W= .ok (.tuple #[.int .i64 0, .bool false]) W:=by
 simp [Instr.typeAssert,run_underlying Tryz.underlying3,Tryz.zeroValue3]
theorem Wy (v:Value) (W:World):(Instr.typeAssert (.iface 9 v) 20 9 true).run Tryz.prog W= .ok (.tuple #[v, .bool true]) W:=by
 simp [Instr.typeAssert,run_underlying Tryz.underlying9]
set_option maxHeartbeats 4000000 in
set_option maxRecDepth 1000000 in
theorem Er (B b k cap:Nat) (bs:List UInt8) (l:List Wd) (w:World) (hb:Lib.IsBuilderF 119 5 B b (Lib.byteCells bs) w) (hBw:B<=w.heap.size)
  (hk: ∀i,i<l.length->w.cell? ⟨k,i,none⟩=some (SI (l.getD i default))) (hkt: ∃cs fz,w.heap[k]? =some (.cells cs 20 fz)) (hkb:k≠b) (hok: ∀i,i<l.length->I9 (l.getD i default))
  (hlen:bs.length+((rD l l.length).length+1)<=140737488355328) (hll:l.length<=1000000) (htab:zi B w):
  Calls Tryz.prog 58 #[.slice (some ⟨k,0,none⟩) l.length cap, .pointer (some ⟨b,0,none⟩)] w fun e w'=>e= .returned (.tuple #[])/\Lib.IsBuilderF 119 5 B b (Lib.byteCells (bs++(rD l l.length++[10]))) w'/\Below B w w'/\Lib.OthersKept 5 (some b) w w':=by
 go_enter Tryz.func58,Tryz.ntmps58
 go_wp2
 go_loopw [9] (fun i wr=> ∃j:Nat,j<=l.length/\i= .int .i64 j/\Lib.IsBuilderF 119 5 B b (Lib.byteCells (bs++rD l j)) wr/\Below B w wr/\Lib.OthersKept 5 (some b) w wr) (fun i _=>l.length - (RowKit.intOf i).toNat)
 case atStart=>exact⟨0,Nat.zero_le _,rfl,by simpa [rD]using hb, .refl _ _, .refl _ _ _⟩
 case round=>
  obtain⟨j,hj,rfl,hB,hbl,hkp⟩:=hrel;have hll':(l.length:Int)<=1000000:=by omega
  obtain⟨cs,fz,hkc⟩:=hkt;have hkr:wr.heap[k]? =some (.cells cs 20 fz):=hkp k _ hkc (fun e=>hkb (by injection e)) (fun c fz' e=>by injection e with _ e2 _;exact absurd e2 (by decide));have hBr:B<=wr.heap.size:=dC hBw hbl.size;rcases Nat.lt_or_ge j l.length with hjl|hjl
  ·have hlt:(j:Int)<(l.length:Int):=by omega
   have hc:wr.cell? ⟨k,j,none⟩=some (SI (l.getD j default)):=by
    rw [<-hk j hjl];simp only [World.cell?,hkr,hkc]
   have hp:rD l (j+1)=rD l j++((if 0<j then [32]else [])++YB (l.getD j default)):=rfl;have hm:=M8 l (Nat.succ_le_of_lt hjl);rw [hp]at hm;simp only [b_]at hm;have hw:=hok j hjl;have tI:=Yo;have tI':=UN;have tS:=Wy;cases hx:l.getD j default with
   |n x=>
    rw [hx]at hc hp hm hw;simp only [SI,YB,I9]at hc hp hm hw;rcases Nat.eq_zero_or_pos j with h0|h0
    ·subst h0;rw [ce (Nat.lt_irrefl 0)]at hp hm;go_wp2_with (go_at_call 61;refine(kZ x hw.1 hw.2 _ (htab.on hbl).here).mono ?_);rintro e w2 ⟨rfl,hb2⟩;have hB2s:B<=w2.heap.size:=dC hBr hb2.size;have hB2:=jB hB hb2;have hq:(bs++rD l 0).length+(Lib.itoa x).length<=140737488355328:=by
      simp only [rD,cV,cW,List.length_nil]at hm ⊢;omega
     go_wp2_with (go_at_call 60;refine(jM B b _ (Lib.itoa x) _ hB2 hq hB2s).mono ?_);rintro e w3 ⟨rfl,hB3,hb3,hk3⟩;go_wp2
     go_roundw
     case rel=>
      refine⟨1,hjl,by simp, ?_,hbl.trans ((hb2.mono hBr).trans hb3),hkp.trans ((EQ hb2).trans hk3)⟩;rw [hp];simpa using hB3
     case measure=>simp [RowKit.intOf];omega
    ·rw [ci h0]at hp hm;go_wp2_with (go_at_call 59;refine(J9 B b (bs++rD l j) _ hB (by simp only [b_];simp at hm;omega) hBr).mono ?_);rintro e w1 ⟨rfl,hB1,hb1,hk1⟩;have hB1s:B<=w1.heap.size:=dC hBr hb1.size;go_wp2_with (go_at_call 61;refine(kZ x hw.1 hw.2 _ (htab.on (hbl.trans hb1)).here).mono ?_);rintro e w2 ⟨rfl,hb2⟩;have hB2s:B<=w2.heap.size:=dC hB1s hb2.size;have hB2:=jB hB1 hb2;go_wp2_with (go_at_call 60;refine(jM B b _ (Lib.itoa x) _ hB2 (by simp only [b_];simp at hm;simp;omega) hB2s).mono ?_);rintro e w3 ⟨rfl,hB3,hb3,hk3⟩;go_wp2
     go_roundw
     case rel=>
      refine⟨j+1,hjl,by simp, ?_,(hbl.trans hb1).trans ((hb2.mono hB1s).trans hb3),(hkp.trans hk1).trans ((EQ hb2).trans hk3)⟩;rw [hp];simpa using hB3
     case measure=>simp [RowKit.intOf];omega
   |s x=>
    rw [hx]at hc hp hm hw;simp only [SI,YB,I9]at hc hp hm hw;rcases Nat.eq_zero_or_pos j with h0|h0
    ·subst h0;rw [ce (Nat.lt_irrefl 0)]at hp hm;have hq:(bs++rD l 0).length+x.length<=140737488355328:=by
      simp only [rD,cV,cW,List.length_nil]at hm ⊢;omega
     go_wp2_with (go_at_call 60;refine(jM B b _ x _ hB hq hBr).mono ?_);rintro e w3 ⟨rfl,hB3,hb3,hk3⟩;go_wp2
     go_roundw
     case rel=>
      refine⟨1,hjl,by simp, ?_,hbl.trans hb3,hkp.trans hk3⟩;rw [hp];simpa using hB3
     case measure=>simp [RowKit.intOf];omega
    ·rw [ci h0]at hp hm;go_wp2_with (go_at_call 59;refine(J9 B b (bs++rD l j) _ hB (by simp only [b_];simp at hm;omega) hBr).mono ?_);rintro e w1 ⟨rfl,hB1,hb1,hk1⟩;have hB1s:B<=w1.heap.size:=dC hBr hb1.size;go_wp2_with (go_at_call 60;refine(jM B b _ x _ hB1 (by simp only [b_];simp at hm;simp;omega) hB1s).mono ?_);rintro e w3 ⟨rfl,hB3,hb3,hk3⟩;go_wp2
     go_roundw
     case rel=>
      refine⟨j+1,hjl,by simp, ?_,(hbl.trans hb1).trans hb3,(hkp.trans hk1).trans hk3⟩;rw [hp];simpa using hB3
     case measure=>simp [RowKit.intOf];omega
  ·have hje:j=l.length:=by omega
   subst hje;have hnl: ¬ (l.length:Int)<(l.length:Int):=by omega
   go_wp2_with (go_at_call 59;refine(Qd B b (bs++rD l l.length) _ hB (by simp only [b_];omega) hBr).mono ?_);rintro e w1 ⟨rfl,hB1,hb1,hk1⟩;go_wp2;intro hB1 hb1 hk1;go_wp2
   go_end0
   refine⟨rfl, ?_,hbl.trans hb1,hkp.trans hk1⟩;exact hB1
theorem fw {P:Program} {ops:Array Oper} {Q:Exit->Act->World->Prop} {md:Region.Mode} {S:World->Prop} {i:Nat} {o:Oper} {fuel:Nat} {listed:Array Bool} {a:Act} {w:World}
  (hr:Region.ready md ops listed=[i]) (hi:ops[i]? =some o) (hg:o.guard=none)
  (h: ∀K:Act->World->Prop,(∀a w,(S w/\wpAnyH P md ops Q S fuel (listed.setIfInBounds i true) a w)->K a w)->o.wp P a w K Q):wpAnyH P md ops Q S (fuel+1) listed a w:=by
 refine wpAnyH_all hr (by simp) fun j hj=> ?_;have hj:j=i:=by simpa using hj
 subst hj;unfold wpOp;rw [hi];simp only [Region.wanted,hg,if_true];exact .inl (h _ fun _ _ h=>h)
theorem take_at {P:Program} {ops:Array Oper} {Q:Exit->Act->World->Prop} {md:Region.Mode} {S:World->Prop} {i d:Nat} {oi:Oper} {v:Value} {fuel:Nat} {listed:Array Bool} {tm:Array Value} {df:List Deferred} {w:World} (hi:ops[i]? =some oi) (hd:oi.dst=some d) (hg:oi.guard=none)
  (hs:Region.noSelect ops=true) (hf:Region.free md ops listed i=true) (hr:(Region.ready md ops listed).contains i=true)
  (hQ: ∀c tm' df w,Q (.panic c) ⟨tm',df⟩ w-> ∀tm,Q (.panic c) ⟨tm,df⟩ w) (hy: ∀V,S V->(execOp (Act.eval ⟨tm,df⟩) oi).run P V= .ok (.value v) V) (hS:S w)
  (h:wpAnyH P md ops Q S fuel (listed.setIfInBounds i true) ⟨tm.setIfInBounds d v,df⟩ w):wpAnyH P md ops Q S (fuel+1) listed ⟨tm,df⟩ w:=
 wpAnyH_take hi hs hf hr (fun c a w h=>by cases a;rw [hd]at h;exact hQ _ _ _ _ h _) (.inl ⟨by simp [Region.wanted,hg],hy⟩) hS (by rw [hd];exact h)
end Sg

namespace Sg
open Go Go.Proofs Go.RowKit Go.Sort
def ML (x y:Int):Int:=if x<y then -1 else if y<x then 1 else 0
def cm2 (x0 x1 y0 y1:Int):Int:=if x0<y0 then -1 else if y0<x0 then 1 else if x1<y1 then -1 else if y1<x1 then 1 else 0
theorem Be (x:Int) (W:World):Calls Tryz.prog 121 #[.int .i64 x] W fun e w'=>e= .returned (.bool false)/\w'=W:=by
 go_enter Tryz.func121,Tryz.ntmps121
 go_wp2
 go_ret
 exact⟨rfl,rfl⟩
theorem lG (x y:Int) (W:World):Calls Tryz.prog 91 #[.int .i64 x, .int .i64 y] W fun e w'=>e= .returned (.int .i64 (ML x y))/\w'=W:=by
 unfold ML
 go_enter Tryz.func91,Tryz.ntmps91
 rcases Int.lt_trichotomy x y with h|h|h
 ·rw [ci h];go_wp2_with (go_at_call 121;refine(Be _ _).mono ?_;rintro e w' ⟨rfl,rfl⟩)
  go_ret
  exact⟨rfl,rfl⟩
 ·subst h;rw [ce (Int.lt_irrefl x),ce (Int.lt_irrefl x)];go_wp2_with (go_at_call 121;refine(Be _ _).mono ?_;rintro e w' ⟨rfl,rfl⟩)
  go_ret
  exact⟨rfl,rfl⟩
 ·have h': ¬ x<y:=by omega
  rw [ce h',ci h];go_wp2_with (go_at_call 121;refine(Be _ _).mono ?_;rintro e w' ⟨rfl,rfl⟩)
  go_ret
  exact⟨rfl,rfl⟩
set_option maxHeartbeats 2000000 in
theorem Ox (x0 x1 y0 y1:Int) (k1 k2:Nat) (W:World) (h0:W.cell? ⟨k1,0,none⟩=some (.int .i64 x0)) (h1:W.cell? ⟨k1,1,none⟩=some (.int .i64 x1)) (h2:W.cell? ⟨k2,0,none⟩=some (.int .i64 y0)) (h3:W.cell? ⟨k2,1,none⟩=some (.int .i64 y1)) (e0:ML x0 y0= -1):
  Calls Tryz.prog 44 #[.slice (some ⟨k1,0,none⟩) 2 2, .slice (some ⟨k2,0,none⟩) 2 2] W fun e w'=>e= .returned (.int .i64 (-1))/\w'=W:=by
 have a0:Hid (∀W,Calls Tryz.prog 91 #[.int .i64 x0, .int .i64 y0] W fun e w'=>e= .returned (.int .i64 (-1))/\w'=W):=fun W=>by have:=lG x0 y0 W;rw [e0]at this;exact this
 clear e0
 go_enter Tryz.func44,Tryz.ntmps44
 go_wp2;refine wp_loop_rounds 3 ?_;rw [rounds_succ];go_wp2_with (go_at_call 91;refine Calls.mono (a0.out _) ?_;rintro e w' ⟨rfl,rfl⟩)
 go_ret
 exact⟨rfl,rfl⟩
set_option maxHeartbeats 2000000 in
theorem NJ (x0 x1 y0 y1:Int) (k1 k2:Nat) (W:World) (h0:W.cell? ⟨k1,0,none⟩=some (.int .i64 x0)) (h1:W.cell? ⟨k1,1,none⟩=some (.int .i64 x1)) (h2:W.cell? ⟨k2,0,none⟩=some (.int .i64 y0)) (h3:W.cell? ⟨k2,1,none⟩=some (.int .i64 y1)) (e0:ML x0 y0=1):
  Calls Tryz.prog 44 #[.slice (some ⟨k1,0,none⟩) 2 2, .slice (some ⟨k2,0,none⟩) 2 2] W fun e w'=>e= .returned (.int .i64 (1))/\w'=W:=by
 have a0:Hid (∀W,Calls Tryz.prog 91 #[.int .i64 x0, .int .i64 y0] W fun e w'=>e= .returned (.int .i64 (1))/\w'=W):=fun W=>by have:=lG x0 y0 W;rw [e0]at this;exact this
 clear e0
 go_enter Tryz.func44,Tryz.ntmps44
 go_wp2;refine wp_loop_rounds 3 ?_;rw [rounds_succ];go_wp2_with (go_at_call 91;refine Calls.mono (a0.out _) ?_;rintro e w' ⟨rfl,rfl⟩)
 go_ret
 exact⟨rfl,rfl⟩
set_option maxHeartbeats 2000000 in
theorem OG (x0 x1 y0 y1:Int) (k1 k2:Nat) (W:World) (h0:W.cell? ⟨k1,0,none⟩=some (.int .i64 x0)) (h1:W.cell? ⟨k1,1,none⟩=some (.int .i64 x1)) (h2:W.cell? ⟨k2,0,none⟩=some (.int .i64 y0)) (h3:W.cell? ⟨k2,1,none⟩=some (.int .i64 y1)) (e0:ML x0 y0=0) (e1:ML x1 y1= -1):
  Calls Tryz.prog 44 #[.slice (some ⟨k1,0,none⟩) 2 2, .slice (some ⟨k2,0,none⟩) 2 2] W fun e w'=>e= .returned (.int .i64 (-1))/\w'=W:=by
 have a0:Hid (∀W,Calls Tryz.prog 91 #[.int .i64 x0, .int .i64 y0] W fun e w'=>e= .returned (.int .i64 (0))/\w'=W):=fun W=>by have:=lG x0 y0 W;rw [e0]at this;exact this
 have a1:Hid (∀W,Calls Tryz.prog 91 #[.int .i64 x1, .int .i64 y1] W fun e w'=>e= .returned (.int .i64 (-1))/\w'=W):=fun W=>by have:=lG x1 y1 W;rw [e1]at this;exact this
 clear e0 e1
 go_enter Tryz.func44,Tryz.ntmps44
 go_wp2;refine wp_loop_rounds 3 ?_;rw [rounds_succ];go_wp2_with (go_at_call 91;refine Calls.mono (a0.out _) ?_;rintro e w' ⟨rfl,rfl⟩);rw [rounds_succ];go_wp2_with (go_at_call 91;refine Calls.mono (a1.out _) ?_;rintro e w' ⟨rfl,rfl⟩)
 go_ret
 exact⟨rfl,rfl⟩
set_option maxHeartbeats 2000000 in
theorem OT (x0 x1 y0 y1:Int) (k1 k2:Nat) (W:World) (h0:W.cell? ⟨k1,0,none⟩=some (.int .i64 x0)) (h1:W.cell? ⟨k1,1,none⟩=some (.int .i64 x1)) (h2:W.cell? ⟨k2,0,none⟩=some (.int .i64 y0)) (h3:W.cell? ⟨k2,1,none⟩=some (.int .i64 y1)) (e0:ML x0 y0=0) (e1:ML x1 y1=1):
  Calls Tryz.prog 44 #[.slice (some ⟨k1,0,none⟩) 2 2, .slice (some ⟨k2,0,none⟩) 2 2] W fun e w'=>e= .returned (.int .i64 (1))/\w'=W:=by
 have a0:Hid (∀W,Calls Tryz.prog 91 #[.int .i64 x0, .int .i64 y0] W fun e w'=>e= .returned (.int .i64 (0))/\w'=W):=fun W=>by have:=lG x0 y0 W;rw [e0]at this;exact this
 have a1:Hid (∀W,Calls Tryz.prog 91 #[.int .i64 x1, .int .i64 y1] W fun e w'=>e= .returned (.int .i64 (1))/\w'=W):=fun W=>by have:=lG x1 y1 W;rw [e1]at this;exact this
 clear e0 e1
 go_enter Tryz.func44,Tryz.ntmps44
 go_wp2;refine wp_loop_rounds 3 ?_;rw [rounds_succ];go_wp2_with (go_at_call 91;refine Calls.mono (a0.out _) ?_;rintro e w' ⟨rfl,rfl⟩);rw [rounds_succ];go_wp2_with (go_at_call 91;refine Calls.mono (a1.out _) ?_;rintro e w' ⟨rfl,rfl⟩)
 go_ret
 exact⟨rfl,rfl⟩
set_option maxHeartbeats 2000000 in
theorem NY (x0 x1 y0 y1:Int) (k1 k2:Nat) (W:World) (h0:W.cell? ⟨k1,0,none⟩=some (.int .i64 x0)) (h1:W.cell? ⟨k1,1,none⟩=some (.int .i64 x1)) (h2:W.cell? ⟨k2,0,none⟩=some (.int .i64 y0)) (h3:W.cell? ⟨k2,1,none⟩=some (.int .i64 y1)) (e0:ML x0 y0=0) (e1:ML x1 y1=0):
  Calls Tryz.prog 44 #[.slice (some ⟨k1,0,none⟩) 2 2, .slice (some ⟨k2,0,none⟩) 2 2] W fun e w'=>e= .returned (.int .i64 (0))/\w'=W:=by
 have a0:Hid (∀W,Calls Tryz.prog 91 #[.int .i64 x0, .int .i64 y0] W fun e w'=>e= .returned (.int .i64 (0))/\w'=W):=fun W=>by have:=lG x0 y0 W;rw [e0]at this;exact this
 have a1:Hid (∀W,Calls Tryz.prog 91 #[.int .i64 x1, .int .i64 y1] W fun e w'=>e= .returned (.int .i64 (0))/\w'=W):=fun W=>by have:=lG x1 y1 W;rw [e1]at this;exact this
 clear e0 e1
 go_enter Tryz.func44,Tryz.ntmps44
 go_wp2;refine wp_loop_rounds 3 ?_;rw [rounds_succ];go_wp2_with (go_at_call 91;refine Calls.mono (a0.out _) ?_;rintro e w' ⟨rfl,rfl⟩);rw [rounds_succ];go_wp2_with (go_at_call 91;refine Calls.mono (a1.out _) ?_;rintro e w' ⟨rfl,rfl⟩);rw [rounds_succ];go_wp2
 go_ret
 exact⟨rfl,rfl⟩
theorem FZ (x0 x1 y0 y1:Int) (k1 k2:Nat) (W:World) (h0:W.cell? ⟨k1,0,none⟩=some (.int .i64 x0)) (h1:W.cell? ⟨k1,1,none⟩=some (.int .i64 x1)) (h2:W.cell? ⟨k2,0,none⟩=some (.int .i64 y0)) (h3:W.cell? ⟨k2,1,none⟩=some (.int .i64 y1)):
  Calls Tryz.prog 44 #[.slice (some ⟨k1,0,none⟩) 2 2, .slice (some ⟨k2,0,none⟩) 2 2] W fun e w'=>e= .returned (.int .i64 (cm2 x0 x1 y0 y1))/\w'=W:=by
 unfold cm2;by_cases g0:x0<y0;·rw [ci g0];exact Ox x0 x1 y0 y1 k1 k2 W h0 h1 h2 h3 (ci g0)
 ·by_cases g1:y0<x0
  ·rw [ce g0,ci g1];exact NJ x0 x1 y0 y1 k1 k2 W h0 h1 h2 h3 (by unfold ML;rw [ce g0,ci g1])
  ·have e0:ML x0 y0=0:=by unfold ML;rw [ce g0,ce g1]
   rw [ce g0,ce g1];by_cases g2:x1<y1;·rw [ci g2];exact OG x0 x1 y0 y1 k1 k2 W h0 h1 h2 h3 e0 (ci g2)
   ·by_cases g3:y1<x1
    ·rw [ce g2,ci g3];exact OT x0 x1 y0 y1 k1 k2 W h0 h1 h2 h3 e0 (by unfold ML;rw [ce g2,ci g3])
    ·rw [ce g2,ce g3];exact NY x0 x1 y0 y1 k1 k2 W h0 h1 h2 h3 e0 (by unfold ML;rw [ce g2,ce g3])
set_option maxHeartbeats 2000000 in
theorem KF (x0 x1 y0 y1:Int) (W:World):Calls Tryz.prog 43 #[.agg #[.int .i64 x0, .int .i64 x1], .agg #[.int .i64 y0, .int .i64 y1]] W fun e w'=>e= .returned (.int .i64 (cm2 x0 x1 y0 y1))/\ ∃q os',w'=grow (W.drewN q) os':=by
 go_enter Tryz.func43,Tryz.ntmps43
 go_wp2;have hm:Tryz.prog.follows .mixedOrders=true:=by kernel_rfl
 refine wp_region_held (S:=fun _=>True) hm ?_;obtain⟨V,hV⟩: ∃V,V=((W.alloc (.cells #[.int .i64 x0, .int .i64 x1] 74)).alloc (.cells #[.int .i64 y0, .int .i64 y1] 74)).drew:=⟨_,rfl⟩;change wpAnyH _ _ _ _ _ 4 _ _ (World.drew ((W.alloc (.cells #[.int .i64 x0, .int .i64 x1] 74)).alloc (.cells #[.int .i64 y0, .int .i64 y1] 74)));rw [<-hV];have b1:V.heap[W.heap.size+1]? =some (.cells #[.int .i64 y0, .int .i64 y1] 74 (0,0)):=by
  subst hV;show((W.alloc (.cells #[.int .i64 x0, .int .i64 x1] 74)).alloc (.cells #[.int .i64 y0, .int .i64 y1] 74)).heap[W.heap.size+1]? =_;rw [show W.heap.size+1=(W.alloc (.cells #[.int .i64 x0, .int .i64 x1] 74)).heap.size by simp];exact heap_alloc_new _ _
 have b0:V.heap[W.heap.size]? =some (.cells #[.int .i64 x0, .int .i64 x1] 74 (0,0)):=by
  subst hV;show((W.alloc (.cells #[.int .i64 x0, .int .i64 x1] 74)).alloc (.cells #[.int .i64 y0, .int .i64 y1] 74)).heap[W.heap.size]? =_;rw [heap_alloc_old _ _ (by simp)];exact heap_alloc_new W _
 have L:Hid _:=FZ x0 x1 y0 y1 W.heap.size (W.heap.size+1) V (by simp only [World.cell?,b0];rfl) (by simp only [World.cell?,b0];rfl) (by simp only [World.cell?,b1];rfl) (by simp only [World.cell?,b1];rfl);have hg:V=grow (W.drewN 1) #[.cells #[.int .i64 x0, .int .i64 x1] 74 (0,0), .cells #[.int .i64 y0, .int .i64 y1] 74 (0,0)]:=by
  subst hV;rfl
 clear hV b0 b1;refine take_at (i:=0) (d:=5) (v:= .slice (some ⟨W.heap.size,0,none⟩) 2 2) rfl rfl rfl (by kernel_rfl) (by kernel_rfl) (by kernel_rfl) (fun _ _ _ _ h _=>h) (fun U _=> ?_) trivial ?_
 ·clear hg
  go_simp
 simp only [eo,ep,ew];refine take_at (i:=1) (d:=6) (v:= .slice (some ⟨W.heap.size+1,0,none⟩) 2 2) rfl rfl rfl (by kernel_rfl) (by kernel_rfl) (by kernel_rfl) (fun _ _ _ _ h _=>h) (fun U _=> ?_) trivial ?_
 ·clear hg
  go_simp
 simp only [eo,ep,ew];have hgH:Hid _:=hg;clear hg;refine fw (i:=2) (by kernel_rfl) rfl rfl (fun K hK=> ?_);go_wp2_with (go_at_call 44;refine Calls.mono L.out ?_;rintro e w' ⟨rfl,rfl⟩);refine⟨trivial, ?_⟩;refine fw (i:=3) (by kernel_rfl) rfl rfl (fun K hK=> ?_);go_wp2;refine⟨trivial,wpAnyH_done (by kernel_rfl) ?_ _⟩;go_wp2
 go_ret
 exact⟨rfl,1,_,hgH.out⟩
theorem Mh {α:Type} [Inhabited α] (enc:α->List Value) (a0 a1:α->Int) (he: ∀x,enc x=[.int .i64 (a0 x), .int .i64 (a1 x)]) (blk off size:Nat) (w:World):
  CmpLays Tryz.prog 43 #[] enc 2 (fun x y=>cm2 (a0 x) (a1 x) (a0 y) (a1 y)) blk off size w:=by
 intro m os dk hs x y;rw [he x,he y];exact KF _ _ _ _ _
end Sg

namespace Sg
open Go Go.Proofs Go.RowKit Go.ChangeMaps
def RdS (W:World) (a:Option Addr) (n k:Nat) (f:Nat->Nat->Int):Prop:=
 ∀i,i<n-> ∃b o,a=some ⟨b,o,none⟩/\ ∀j,j<k->W.cell? ⟨b,o+(i*k+j),none⟩=some (.int .i64 (f i j))
def RdL (W:World) (a:Option Addr) (n:Nat) (f:Nat->Nat->Int) (tn:Nat->Nat) (tf:Nat->Nat->Nat->Int):Prop:=
 ∀i,i<n-> ∃b o ta tc,a=some ⟨b,o,none⟩/\(∀j,j<5->W.cell? ⟨b,o+(i*6+j),none⟩=some (.int .i64 (f i j)))/\W.cell? ⟨b,o+(i*6+5),none⟩=some (.slice ta (tn i) tc)/\RdS W ta (tn i) 2 (tf i)
theorem cell_below {W W':World} {B:Nat} (hb:Below B W W') {ad:Addr} {v:Value} (hB:ad.block<B) (h:W.cell? ad=some v):W'.cell? ad=some v:=by
 simp only [World.cell?,hb.block _ hB]at h ⊢;exact h
theorem mF {W:World} {ad:Addr} {v:Value} (h:W.cell? ad=some v):ad.block<W.heap.size:=by
 rcases Nat.lt_or_ge ad.block W.heap.size with h'|h';·exact h'
 ·simp [World.cell?,Array.getElem?_eq_none h']at h
theorem Tm {B b:Nat} {w v:World} (h:zi B w) (hb:Below B w v) (hB:B<=b):zi b v:=fun w' h'=>h w' (hb.trans (h'.mono hB))
theorem BV {B b:Nat} {bs:List Value} {V:World} (h:Lib.IsBuilderF 119 5 B b bs V) (o:Obj):Lib.IsBuilderF 119 5 B b bs (V.alloc o):=
 jB h ((Below.refl _ V).alloc (cx _) o)
theorem yw (b k:Nat) (bs:List UInt8) (l:List Wd) (V:World) (hkV:V.heap.size=k) (hb:Lib.IsBuilderF 119 5 b b (Lib.byteCells bs) V) (hbV:b<V.heap.size) (hok: ∀i,i<l.length->I9 (l.getD i default))
  (hlen:bs.length+(qy l).length<=140737488355328) (hll:l.length<=1000000) (htab:zi b V):
  Calls Tryz.prog 58 #[.slice (some ⟨k,0,none⟩) l.length l.length, .pointer (some ⟨b,0,none⟩)] (V.alloc (.cells (l.map SI).toArray 20)) fun e w'=>
   e= .returned (.tuple #[])/\Lib.IsBuilderF 119 5 b b (Lib.byteCells (bs++qy l)) w'/\Below b V w'/\Lib.OthersKept 5 (some b) V w':=by
 subst hkV;have hal:Below b V (V.alloc (.cells (l.map SI).toArray 20)):=(Below.refl b V).alloc (Nat.le_of_lt hbV) _;refine(Er b b V.heap.size l.length bs l _ (BV hb _) (by simp;omega) (fun i hi=> ?_) ⟨_,_,heap_alloc_new V _⟩ (by omega) hok ?_ hll (htab.on hal)).mono ?_
 ·simp only [World.cell?,heap_alloc_new];simp [cS,hi]
 ·unfold qy at hlen;simp only [b_,cw]at hlen;omega
 ·rintro e w' ⟨he,h1,h2,h3⟩;exact⟨he,h1,hal.trans h2,(Lib.OthersKept.alloc (.refl _ _ V) _).trans h3⟩
theorem O0 {B b k:Nat} {bs:List Value} {V V':World} (h:Lib.IsBuilderF 119 5 B b bs V) (hg:V.grownBy V' (some k)) (hk: ∃c fz,V.heap[k]? =some (.cells c 20 fz)):Lib.IsBuilderF 119 5 B b bs V':=by
 obtain⟨c,fz0,hk⟩:=hk;have hl: ∀{i:Nat} {c:Array Value} {E:TypeId} {f:Nat × Nat},E≠20->V.heap[i]? =some (.cells c E f)->V'.heap[i]? =some (.cells c E f):=fun{i c E f} hE e=>by
  rw [hg.block i ((Nat.lt_or_ge i V.heap.size).elim id fun h=>by simp [Array.getElem?_eq_none h]at e) (fun e'=>by injection e' with e';subst e';rw [e]at hk;injection hk with hk;injection hk with _ q _;exact hE q)];exact e
 have key: ∀p,Lib.BuilderAtF 119 5 B b p bs V->Lib.BuilderAtF 119 5 B b p bs V':=by
  rintro p ⟨h1,v,h2,⟨h3,h4⟩,h5⟩;refine⟨h1,v,hl (by decide) h2,⟨h3, ?_⟩,h5⟩;rcases h4 with h4|⟨g,cap,cur,fz,q1,q2,q3,q4⟩;·exact .inl h4
  ·exact .inr ⟨g,cap,cur,fz,q1,q2,hl (by decide) q3,q4⟩
 exact h.imp (key _) (key _)
theorem below_grown {B k:Nat} {V V':World} (hg:V.grownBy V' (some k)) (hB:B<=k) (hV:B<=V.heap.size):Below B V V':=
 ⟨hg.os,hg.tape,hg.output,hg.size,fun i hi=>hg.block i (by omega) (fun e=>by injection e;omega)⟩
theorem yj {base n:Nat} {v:Value} {xs:List Value} {V V':World} (h:V.ownsRowF base 20 1 v n xs) (hb:Below V.heap.size V V'):V'.ownsRowF base 20 1 v n xs:=by
 obtain⟨h3,h4⟩:=h;refine⟨h3, ?_⟩;rcases h4 with h4|⟨g,cap,cur,fz,q1,q2,q3,q4⟩;·exact .inl h4
 ·refine .inr ⟨g,cap,cur,fz,q1,q2, ?_,q4⟩;rw [hb.block g ((Nat.lt_or_ge g V.heap.size).elim id fun h=>by simp [Array.getElem?_eq_none h]at q3)];exact q3
theorem Rb (b k cap n base:Nat) (bs:List UInt8) (l:List Wd) (V:World) (hn:l.length=n) (hn0:0<n) (hown:V.ownsRowF base 20 1 (.slice (some ⟨k,0,none⟩) n cap) n (l.map SI)) (hb:Lib.IsBuilderF 119 5 b b (Lib.byteCells bs) V) (hbb:b<base) (hbV:b<=V.heap.size) (hok: ∀i,i<l.length->I9 (l.getD i default))
  (hlen:bs.length+(qy l).length<=140737488355328) (hll:l.length<=1000000) (htab:zi b V):
  Calls Tryz.prog 58 #[.slice (some ⟨k,0,none⟩) n cap, .pointer (some ⟨b,0,none⟩)] V fun e w'=>
   e= .returned (.tuple #[])/\Lib.IsBuilderF 119 5 b b (Lib.byteCells (bs++qy l)) w'/\Below b V w'/\Lib.OthersKept 5 (some b) V w':=by
 subst hn;obtain⟨h3,h4⟩:=hown;rcases h4 with⟨h4,_⟩|⟨g,cap',cur,fz,q1,q2,q3,q4,q5,q6,q7,q8⟩;·cases h4
 ·cases q1;have hsz:cur.size=cap:=by omega
  refine Er b b k cap bs l V hb hbV (fun i hi=> ?_) ⟨_,_,q3⟩ (by omega) hok ?_ hll htab
  ·have:(cur.toList.take (l.length*1))[i]? =some (SI (l.getD i default)):=by rw [q8];simp [cS,hi]
   rw [List.getElem?_take,ci (by omega)]at this;simp only [World.cell?,q3];rw [<-this,Array.getElem?_toList];simp
  ·unfold qy at hlen;simp only [b_,cw]at hlen;omega
theorem Ij (b:Nat) (l:List UInt8) (w:World) (h:Lib.IsBuilderF 119 5 b b (Lib.byteCells l) w) (hbw:b<=w.heap.size):
  Calls Tryz.prog 66 #[.pointer (some ⟨b,0,none⟩)] w fun e w'=>e= .returned (.string (sb l))/\Below b w w':=
 (Any.Builder_String_any_k FX lS b b l w h hbw).mono fun e w' ⟨he,_,h2,_⟩=> ⟨he,h2⟩
theorem G5 (a b:List UInt8):sb a++sb b=sb (a++b):=by
 apply ByteArray.ext;simp [sb,ByteArray.data_append]
theorem UG (w:World) (base k n cap:Nat) (xs:List Value) (z:Nat) (x:Value) (hown:w.ownsRowF base 20 1 (.slice (some ⟨k,0,none⟩) n cap) n xs) (hz:w.cell? ⟨z,0,none⟩=some x) (hx:x.oneCell'=true) (hn:n<=1000000) (hb:base<=w.heap.size) (ty:TypeId):
  ∃k' cap' w',(Builtin.append_ #[120,120] ty #[.slice (some ⟨k,0,none⟩) n cap, .slice (some ⟨z,0,none⟩) 1 1]).run Tryz.prog w= .ok (.slice (some ⟨k',0,none⟩) (n+1) cap') w'/\
   w'.ownsRowF base 20 1 (.slice (some ⟨k',0,none⟩) (n+1) cap') (n+1) (xs++[x])/\w.grownBy w' (some k):=by
 obtain⟨i0,hi,hz0,hz1,hz2⟩:=info_parts (show(Tryz.prog.info? 20).map (fun i=>(i.zero,i.size,i.bytes))=some (some .nilIface,1,16) by kernel_rfl);obtain⟨v',w',hr,ho,hg,_⟩:=run_append_ownF (P:=Tryz.prog) w base 120 ty 20 i0 .nilIface 1 16 Tryz.underlying120 hi hz0 hz1 hz2 rfl (by decide) _ n xs hown ⟨z,0,none⟩ 1 1 [x] rfl
  (fun j u h=>by
   match j,h with
   |0,h=>simp at h;subst h;simpa [Addr.add]using hz
   |j+1,h=>simp at h) (fun u h=>by simp at h;subst h;exact hx) (by unfold maxLen;omega) (by omega) hb
 obtain⟨h3,h4⟩:=ho;rcases h4 with⟨_,h4⟩|⟨g,cap',cur,fz,q1,q2⟩;·omega
 ·subst q1;exact⟨g,cap',w',hr,⟨h3, .inr ⟨g,cap',cur,fz,rfl,q2⟩⟩,hg⟩
theorem Ld {P:Program} {o:Oper} {a:Act} {K:Act->World->Prop} {Q:Exit->Act->World->Prop} {V w':World} {s x:Operand} {vs vx v':Value} (hop:o.op= .call {callee:= .builtin .append,args:= #[s,x],argTypes:= #[120,120] })
  (hs:a.eval s=vs) (hx:a.eval x=vx) (hrun:(Builtin.append_ #[120,120] o.type #[vs,vx]).run P V= .ok v' w') (h:K (a.put o.dst v') w'):o.wp P a V K Q:=by
 unfold Oper.wp execOp;simp only [hop,resolve,invoke,builtin,eC,Sem.run_pure,eA,List.map_toArray,cL,List.map_nil,hs,hx,hrun];exact h
def S5 (x:Nat) (f:Nat->Int) (V:World):Prop:=V.cell? ⟨x,0,none⟩=some (.int .i64 (f 0))/\V.cell? ⟨x,1,none⟩=some (.int .i64 (f 1))/\V.cell? ⟨x,2,none⟩=some (.int .i64 (f 2))/\V.cell? ⟨x,3,none⟩=some (.int .i64 (f 3))/\V.cell? ⟨x,4,none⟩=some (.int .i64 (f 4))
def X5 (f:Nat->Int) (E:TypeId):Obj:= .cells #[.int .i64 (f 0), .int .i64 (f 1), .int .i64 (f 2), .int .i64 (f 3), .int .i64 (f 4)] E (0,0)
theorem JQ {x:Nat} {f:Nat->Int} {E:TypeId} {V:World} (h:V.heap[x]? =some (X5 f E)):S5 x f V:=by
 unfold S5;simp only [World.cell?,h,X5];exact⟨rfl,rfl,rfl,rfl,rfl⟩
def X6 (f:Nat->Int) (ta:Option Addr) (n c:Nat):Obj:= .cells #[.int .i64 (f 0), .int .i64 (f 1), .int .i64 (f 2), .int .i64 (f 3), .int .i64 (f 4), .slice ta n c] 73 (0,0)
def S6 (x:Nat) (f:Nat->Int) (ta:Option Addr) (n c:Nat) (V:World):Prop:=V.cell? ⟨x,0,none⟩=some (.int .i64 (f 0))/\V.cell? ⟨x,1,none⟩=some (.int .i64 (f 1))/\V.cell? ⟨x,2,none⟩=some (.int .i64 (f 2))/\V.cell? ⟨x,3,none⟩=some (.int .i64 (f 3))/\V.cell? ⟨x,4,none⟩=some (.int .i64 (f 4))/\V.cell? ⟨x,5,none⟩=some (.slice ta n c)
theorem GR {x:Nat} {f:Nat->Int} {ta:Option Addr} {n c:Nat} {V:World} (h:V.heap[x]? =some (X6 f ta n c)):S6 x f ta n c V:=by
 unfold S6;simp only [World.cell?,h,X6];exact⟨rfl,rfl,rfl,rfl,rfl,rfl⟩
def S2 (x:Nat) (f:Nat->Int) (V:World):Prop:=V.cell? ⟨x,0,none⟩=some (.int .i64 (f 0))/\V.cell? ⟨x,1,none⟩=some (.int .i64 (f 1))
def X2 (f:Nat->Int):Obj:= .cells #[.int .i64 (f 0), .int .i64 (f 1)] 70 (0,0)
theorem Hy {x:Nat} {f:Nat->Int} {V:World} (h:V.heap[x]? =some (X2 f)):S2 x f V:=by
 unfold S2;simp only [World.cell?,h,X2];exact⟨rfl,rfl⟩
theorem nT (f:Nat->Nat->Int): ∀n,(ED f n).length=n
 |0=>rfl
 |n+1=>by simp [ED,nT f n]
theorem Kk (f:Nat->Nat->Int): ∀(n i:Nat),i<n-> ∃s,(ED f n).getD i default= .s s
 |n+1,i,h=>by
  rcases Nat.lt_or_ge i n with h'|h'
  ·obtain⟨s,hs⟩:=Kk f n i h';exact⟨s,by rw [<-hs];simp [ED,cS,List.getElem?_append,nT,h']⟩
  ·have:i=n:=by omega
   subst this;exact⟨_,by simp [ED,cS,List.getElem?_append,nT];rfl⟩
theorem Vb {f:Nat->Int} {n:Nat} {tf:Nat->Nat->Int} (h: ∀j,j<5-> -9223372036854775808<=f j/\f j<=9223372036854775807): ∀i,i<(CU f n tf).length->I9 ((CU f n tf).getD i default):=fun i hi=>by
 rcases Nat.lt_or_ge i 6 with h6|h6
 ·have e:(CU f n tf).getD i default=(zY f).getD i default:=by
   simp [CU,cS,List.getElem?_append,show i<(zY f).length from h6]
  rw [e];exact match i,h6 with
   |0,_=>trivial
   |1,_=>h 0 (by omega)
   |2,_=>h 1 (by omega)
   |3,_=>trivial
   |4,_=>h 3 (by omega)
   |5,_=>h 4 (by omega)
 ·have e:(CU f n tf).getD i default=(ED tf n).getD (i - 6) default:=by
   simp [CU,cS,List.getElem?_append,show ¬ i<(zY f).length from by simp [zY];omega];rfl
  have hi':i - 6<n:=by simp [CU,nT,zY]at hi;omega
  obtain⟨s,hs⟩:=Kk tf n (i - 6) hi';rw [e,hs];trivial
set_option maxHeartbeats 2000000 in
set_option maxRecDepth 1000000 in
theorem Oj (W:World) (nb:Int) (az al ar:Option Addr) (ns nl nr cs cl cr:Nat) (sf lf rf:Nat->Nat->Int) (tn:Nat->Nat) (tf:Nat->Nat->Nat->Int)
  (hnb: -9223372036854775808<=nb/\nb<=9223372036854775807) (hnb':(jQ nb).length<=100) (hsb: ∀i,i<ns-> ∀j,j<5-> -9223372036854775808<=sf i j/\sf i j<=9223372036854775807)
  (hnsl:ns<=1000000) (hlen1: ∀j,j<=ns->(jQ nb).length+(iW sf j).length<=140737488355328)
  (hlb: ∀i,i<nl->(∀j,j<5-> -9223372036854775808<=lf i j/\lf i j<=9223372036854775807)/\tn i<=1000/\ ∀g,g<tn i-> ∀j,j<2->(-9223372036854775808<=tf i g j/\tf i g j<=9223372036854775807)/\(Lib.itoa (tf i g j)).length<=100)
  (hrb: ∀i,i<nr-> ∀j,j<4-> -9223372036854775808<=rf i j/\rf i j<=9223372036854775807) (hnrl:nr<=1000000) (hlen3: ∀j,j<=nr->(jQ nb).length+((iW sf ns).length+((kN lf tn tf nl).length+(qD rf j).length))<=140737488355328)
  (hnll:nl<=1000000) (hlen2: ∀j,j<=nl->(jQ nb).length+((iW sf ns).length+(kN lf tn tf j).length)<=140737488355328)
  (hs:RdS W az ns 5 sf) (hl:RdL W al nl lf tn tf) (hr:RdS W ar nr 4 rf) (htab:zi W.heap.size W)
  (hchk: ∀W',Below W.heap.size W W'->Calls Tryz.prog 8 #[.agg #[.int .i64 nb, .slice az ns cs, .slice al nl cl, .slice ar nr cr]] W' fun e w'=>e= .returned (.int .i64 0)/\Below W'.heap.size W' w'):
  Calls Tryz.prog 23 #[.agg #[.int .i64 nb, .slice az ns cs, .slice al nl cl, .slice ar nr cr]] W fun e w'=>e= .returned (.tuple #[.string (sb (jQ nb++(iW sf ns++(kN lf tn tf nl++qD rf nr)))), .int .i64 0])/\Below W.heap.size W w':=by
 have hs:Hid _:=hs;have hl:Hid _:=hl;have hr:Hid _:=hr;have hchk:Hid _:=hchk;have htab:Hid _:=htab;have hsb:Hid _:=hsb;have hlen1:Hid _:=hlen1;have hlb:Hid _:=hlb;have hlen2:Hid _:=hlen2;have hrb:Hid _:=hrb;have hlen3:Hid _:=hlen3
 go_enter Tryz.func23,Tryz.ntmps23
 go_wp2_with (go_at_call 8;refine(hchk.out _ ((Below.refl _ W).alloc (cx _) _)).mono ?_);rintro e W1 ⟨rfl,hb1⟩;have hsz1:W.heap.size<W1.heap.size:=by have:=hb1.size;simp at this;omega
 have hbox:W1.heap[W.heap.size]? =some (.cells #[.int .i64 nb, .slice az ns cs, .slice al nl cl, .slice ar nr cr] 27 (0,0)):=by
  rw [hb1.block _ (by simp)];exact heap_alloc_new W _
 generalize hbb:W1.heap.size=b at hsz1;have hW2b:Hid (∀V,Below b (W1.alloc (.cells #[.pointer none, .slice none 0 0] 119)) V->V.heap[W.heap.size]? =some (.cells #[.int .i64 nb, .slice az ns cs, .slice al nl cl, .slice ar nr cr] 27 (0,0))):=fun V hV=>by
  rw [hV.block _ hsz1,heap_alloc_old W1 _ (by omega)];exact hbox
 have hcell:Hid (∀V,Below b (W1.alloc (.cells #[.pointer none, .slice none 0 0] 119)) V->V.cell? ⟨W.heap.size,0,none⟩=some (.int .i64 nb)/\V.cell? ⟨W.heap.size,1,none⟩=some (.slice az ns cs)/\V.cell? ⟨W.heap.size,2,none⟩=some (.slice al nl cl)/\V.cell? ⟨W.heap.size,3,none⟩=some (.slice ar nr cr)):=fun V hV=>by
  simp only [World.cell?,hW2b.out V hV];exact⟨rfl,rfl,rfl,rfl⟩
 have hBu:Lib.IsBuilderF 119 5 b b (Lib.byteCells []) (W1.alloc (.cells #[.pointer none, .slice none 0 0] 119)):=by
  subst hbb;exact Lib.IsBuilderF.of (Lib.fresh_isBuilder 119 5 W1)
 have hW2:Below W.heap.size W (W1.alloc (.cells #[.pointer none, .slice none 0 0] 119)):=(((Below.refl _ W).alloc (cx _) _).trans (hb1.mono (by simp))).alloc (by omega) _;have hb2:b<(W1.alloc (.cells #[.pointer none, .slice none 0 0] 119)).heap.size:=by simp;omega
 obtain⟨c0,c1,c2,c3⟩:=hcell.out _ (.refl _ _);have htb:Hid (zi b (W1.alloc (.cells #[.pointer none, .slice none 0 0] 119))):=Tm htab.out hW2 (by omega);have hok0:Hid (∀i,i<[Wd.s jG,Wd.n nb].length->I9 ([Wd.s jG,Wd.n nb].getD i default)):=fun i hi=>match i,hi with
  |0,_=>trivial
  |1,_=>hnb
 have L0:Hid _:=yw b (b+1) [] [.s jG, .n nb] _ (by simp;omega) hBu hb2 hok0 (by unfold jQ at hnb';simp at hnb' ⊢;omega) (by simp) htb.out;go_wp2_with (go_at_call 58;refine Calls.mono L0.out ?_);rintro e W3 ⟨rfl,hB3,hb3,hk3⟩;generalize W1.alloc (.cells #[.pointer none, .slice none 0 0] 119)=W2 at*
 clear L0 c0 c1 c2 c3;obtain⟨c0,c1,c2,c3⟩:=hcell.out _ hb3;go_wp2;have hnsl':(ns:Int)<=1000000:=by omega
 go_loopw [32] (fun i wr=> ∃j:Nat,j<=ns/\i= .int .i64 j/\Lib.IsBuilderF 119 5 b b (Lib.byteCells (jQ nb++iW sf j)) wr/\Below b W2 wr) (fun i _=>ns - (RowKit.intOf i).toNat)
 case atStart=>exact⟨0,Nat.zero_le _,rfl,by simpa [iW,jQ]using hB3,hb3⟩
 case round=>
  clear c0 c1 c2 c3;obtain⟨j,hj,rfl,hB,hbl⟩:=hrel;rcases Nat.lt_or_ge j ns with hjl|hjl
  ·have hlt:(j:Int)<(ns:Int):=by omega
   obtain⟨bs,o,rfl,hcs⟩:=hs.out j hjl;have hbs:bs<b:=eJ (mF (hcs 0 (by omega))) (by omega);have hcw: ∀q,q<5->wr.cell? ⟨bs,o+(j*5+q),none⟩=some (.int .i64 (sf j q)):=fun q hq=>
    cell_below hbl hbs (cell_below hW2 (mF (hcs q hq)) (hcs q hq))
   have q0:=hcw 0 (by omega);have q1:=hcw 1 (by omega);have q2:=hcw 2 (by omega);have q3:=hcw 3 (by omega);have q4:=hcw 4 (by omega);rw [Nat.add_zero]at q0;rw [<-ec]at q1 q2 q3 q4;clear hcw;have hcs:Hid _:=hcs;go_wp2;have hm:Tryz.prog.follows .mixedOrders=true:=by kernel_rfl
   generalize hx:wr.heap.size=x;refine wp_region_held (S:=S5 x (sf j)) hm ?_;obtain⟨V0,hV0⟩: ∃V0,V0=(wr.alloc (X5 (sf j) 67)).drew:=⟨_,rfl⟩;change wpAnyH _ _ _ _ _ 21 _ _ (World.drew (wr.alloc (X5 (sf j) 67)));rw [<-hV0];have hx0:V0.heap[x]? =some (X5 (sf j) 67):=by subst hV0 hx;exact heap_alloc_new wr _
   have hV0s:V0.heap.size=x+1:=by subst hV0;simp [hx]
   have hwV:Below wr.heap.size wr V0:=by subst hV0;exact((Below.refl _ wr).alloc (cx _) _).trans ⟨rfl,rfl,rfl,cx _,fun _ _=>rfl⟩
   have hbx:b<x:=by have:=hbl.size;omega
   have hBV:=jB hB hwV;have hV0b:Below b W2 V0:=hbl.trans (hwV.mono (by omega));have hS0:S5 x (sf j) V0:=JQ hx0;clear hV0 q0 q1 q2 q3 q4 hwV;refine take_at (i:=0) (d:=36) (v:= .func (.func 58) #[] #[.pointer (some ⟨b,0,none⟩)]) rfl rfl rfl (by kernel_rfl) (by kernel_rfl) (by kernel_rfl) (fun _ _ _ _ h _=>h) (fun V hV=> ?_) hS0 ?_
   ·obtain⟨v0,v1,v2,v3,v4⟩:=hV;clear hS0
    go_simp
   simp only [eo,ep,ew];refine take_at (i:=1) (d:=37) (v:= .iface 9 (.string ⟨#[115,111,117,114,99,101]⟩)) rfl rfl rfl (by kernel_rfl) (by kernel_rfl) (by kernel_rfl) (fun _ _ _ _ h _=>h) (fun V hV=> ?_) hS0 ?_
   ·obtain⟨v0,v1,v2,v3,v4⟩:=hV;clear hS0
    go_simp
   simp only [eo,ep,ew];refine take_at (i:=2) (d:=38) (v:= .pointer (some ⟨x,0,none⟩)) rfl rfl rfl (by kernel_rfl) (by kernel_rfl) (by kernel_rfl) (fun _ _ _ _ h _=>h) (fun V hV=> ?_) hS0 ?_
   ·obtain⟨v0,v1,v2,v3,v4⟩:=hV;clear hS0
    go_simp
   simp only [eo,ep,ew];refine take_at (i:=3) (d:=39) (v:= .int .i64 (sf j 0)) rfl rfl rfl (by kernel_rfl) (by kernel_rfl) (by kernel_rfl) (fun _ _ _ _ h _=>h) (fun V hV=> ?_) hS0 ?_
   ·obtain⟨v0,v1,v2,v3,v4⟩:=hV;clear hS0
    go_simp
   simp only [eo,ep,ew];refine take_at (i:=4) (d:=40) (v:= .iface 3 (.int .i64 (sf j 0))) rfl rfl rfl (by kernel_rfl) (by kernel_rfl) (by kernel_rfl) (fun _ _ _ _ h _=>h) (fun V hV=> ?_) hS0 ?_
   ·obtain⟨v0,v1,v2,v3,v4⟩:=hV;clear hS0
    go_simp
   simp only [eo,ep,ew];refine take_at (i:=6) (d:=42) (v:= .pointer (some ⟨x,1,none⟩)) rfl rfl rfl (by kernel_rfl) (by kernel_rfl) (by kernel_rfl) (fun _ _ _ _ h _=>h) (fun V hV=> ?_) hS0 ?_
   ·obtain⟨v0,v1,v2,v3,v4⟩:=hV;clear hS0
    go_simp
   simp only [eo,ep,ew];refine take_at (i:=7) (d:=43) (v:= .int .i64 (sf j 1)) rfl rfl rfl (by kernel_rfl) (by kernel_rfl) (by kernel_rfl) (fun _ _ _ _ h _=>h) (fun V hV=> ?_) hS0 ?_
   ·obtain⟨v0,v1,v2,v3,v4⟩:=hV;clear hS0
    go_simp
   simp only [eo,ep,ew];refine take_at (i:=10) (d:=46) (v:= .pointer (some ⟨x,2,none⟩)) rfl rfl rfl (by kernel_rfl) (by kernel_rfl) (by kernel_rfl) (fun _ _ _ _ h _=>h) (fun V hV=> ?_) hS0 ?_
   ·obtain⟨v0,v1,v2,v3,v4⟩:=hV;clear hS0
    go_simp
   simp only [eo,ep,ew];refine take_at (i:=11) (d:=47) (v:= .int .i64 (sf j 2)) rfl rfl rfl (by kernel_rfl) (by kernel_rfl) (by kernel_rfl) (fun _ _ _ _ h _=>h) (fun V hV=> ?_) hS0 ?_
   ·obtain⟨v0,v1,v2,v3,v4⟩:=hV;clear hS0
    go_simp
   simp only [eo,ep,ew];refine take_at (i:=12) (d:=48) (v:= .iface 3 (.int .i64 (sf j 2))) rfl rfl rfl (by kernel_rfl) (by kernel_rfl) (by kernel_rfl) (fun _ _ _ _ h _=>h) (fun V hV=> ?_) hS0 ?_
   ·obtain⟨v0,v1,v2,v3,v4⟩:=hV;clear hS0
    go_simp
   simp only [eo,ep,ew];refine take_at (i:=13) (d:=49) (v:= .pointer (some ⟨x,3,none⟩)) rfl rfl rfl (by kernel_rfl) (by kernel_rfl) (by kernel_rfl) (fun _ _ _ _ h _=>h) (fun V hV=> ?_) hS0 ?_
   ·obtain⟨v0,v1,v2,v3,v4⟩:=hV;clear hS0
    go_simp
   simp only [eo,ep,ew];refine take_at (i:=14) (d:=50) (v:= .int .i64 (sf j 3)) rfl rfl rfl (by kernel_rfl) (by kernel_rfl) (by kernel_rfl) (fun _ _ _ _ h _=>h) (fun V hV=> ?_) hS0 ?_
   ·obtain⟨v0,v1,v2,v3,v4⟩:=hV;clear hS0
    go_simp
   simp only [eo,ep,ew];refine take_at (i:=15) (d:=51) (v:= .iface 3 (.int .i64 (sf j 3))) rfl rfl rfl (by kernel_rfl) (by kernel_rfl) (by kernel_rfl) (fun _ _ _ _ h _=>h) (fun V hV=> ?_) hS0 ?_
   ·obtain⟨v0,v1,v2,v3,v4⟩:=hV;clear hS0
    go_simp
   simp only [eo,ep,ew];refine take_at (i:=16) (d:=52) (v:= .pointer (some ⟨x,4,none⟩)) rfl rfl rfl (by kernel_rfl) (by kernel_rfl) (by kernel_rfl) (fun _ _ _ _ h _=>h) (fun V hV=> ?_) hS0 ?_
   ·obtain⟨v0,v1,v2,v3,v4⟩:=hV;clear hS0
    go_simp
   simp only [eo,ep,ew];refine take_at (i:=17) (d:=53) (v:= .int .i64 (sf j 4)) rfl rfl rfl (by kernel_rfl) (by kernel_rfl) (by kernel_rfl) (fun _ _ _ _ h _=>h) (fun V hV=> ?_) hS0 ?_
   ·obtain⟨v0,v1,v2,v3,v4⟩:=hV;clear hS0
    go_simp
   simp only [eo,ep,ew];refine take_at (i:=18) (d:=54) (v:= .iface 3 (.int .i64 (sf j 4))) rfl rfl rfl (by kernel_rfl) (by kernel_rfl) (by kernel_rfl) (fun _ _ _ _ h _=>h) (fun V hV=> ?_) hS0 ?_
   ·obtain⟨v0,v1,v2,v3,v4⟩:=hV;clear hS0
    go_simp
   simp only [eo,ep,ew];refine fw (i:=5) (by kernel_rfl) rfl rfl (fun K hK=> ?_);go_wp2_with (go_at_call 63;refine(Ae _).mono ?_);rintro e V1 ⟨rfl,hV1⟩;rw [hV0s];have hV1m:V1.heap[x+1]? =some (.map (fI tQ Cz CG) 3):=by rw [hV1,<-hV0s];exact heap_alloc_new V0 _
   have hV1s:V1.heap.size=x+2:=by rw [hV1];simp;omega
   have hV01:Below (x+1) V0 V1:=by rw [hV1,<-hV0s];exact(Below.refl _ V0).alloc (cx _) _
   clear hV1;have hx1:V1.heap[x]? =some (X5 (sf j) 67):=by rw [hV01.block x (by omega)];exact hx0
   have hS1:S5 x (sf j) V1:=JQ hx1;refine hK _ _ ⟨hS1, ?_⟩;clear hK hS0 hx0;refine fw (i:=8) (by kernel_rfl) rfl rfl (fun K hK=> ?_);go_wp2_with (go_at_call 62;refine(Ty (x+1) tQ Cz CG (sf j 1) _ hV1m).mono ?_);rintro e V2 ⟨rfl,w1,seen,had,hV2⟩;have hV2s:V2.heap.size=x+3:=by rw [hV2];simp [had.1];omega
   have hV12:Below (x+2) V1 V2:=by rw [hV2,<-hV1s];exact(had.below _).trans ((Below.refl _ w1).alloc (by rw [had.1];exact cx _) _)
   clear hV2 had;have hx2:V2.heap[x]? =some (X5 (sf j) 67):=by rw [hV12.block x (by omega)];exact hx1
   have hS2:S5 x (sf j) V2:=JQ hx2;refine hK _ _ ⟨hS2, ?_⟩;clear hK hS1 hx1 hV1m;refine fw (i:=9) (by kernel_rfl) rfl rfl (fun K hK=> ?_);go_wp2;refine⟨hS2, ?_⟩;refine fw (i:=19) (by kernel_rfl) rfl rfl (fun K hK=> ?_);go_wp2;have hxA: ∀o,(V2.alloc o).heap[x]? =some (X5 (sf j) 67):=fun o=>by rw [heap_alloc_old V2 _ (by omega)];exact hx2
   refine⟨JQ (hxA _), ?_⟩;clear hxA;have hV02:Below (x+1) V0 V2:=hV01.trans (hV12.mono (by omega));have hB2:=jB hBV (hV0s ▸ hV02);have hbb2:b<V2.heap.size:=by omega
   have hb02:Below b W2 V2:=hV0b.trans (hV02.mono (by omega));have hokj:Hid (∀i,i<(NS (sf j)).length->I9 ((NS (sf j)).getD i default)):=fun i hi=>match i,hi with
    |0,_=>trivial
    |1,_=>hsb.out j hjl 0 (by omega)
    |2,_=>trivial
    |3,_=>hsb.out j hjl 2 (by omega)
    |4,_=>hsb.out j hjl 3 (by omega)
    |5,_=>hsb.out j hjl 4 (by omega)
   have hlj:(jQ nb++iW sf j).length+(qy (NS (sf j))).length<=140737488355328:=by
    have:=hlen1.out (j+1) hjl;simp only [iW,b_]at this ⊢;omega
   have L1:Hid _:=yw b (x+3) (jQ nb++iW sf j) (NS (sf j)) V2 hV2s hB2 hbb2 hokj hlj (by simp [NS]) (htb.out.on hb02);clear hokj hlj hBV;refine fw (i:=20) (by kernel_rfl) rfl rfl (fun K hK=> ?_);go_wp2_with (go_at_call 58;refine Calls.mono L1.out ?_;rintro e V3 ⟨rfl,hB3',hb3',hk3'⟩);have hx3:V3.heap[x]? =some (X5 (sf j) 67):=hk3' x _ hx2 (fun e=>by injection e;omega) (fun c fz e=>by injection e with _ e2 _;exact absurd e2 (by decide));refine⟨JQ hx3,wpAnyH_done (by kernel_rfl) ?_ _⟩;clear L1;go_wp2
   go_roundw
   case rel=>
    refine⟨j+1,hjl,by simp, ?_,hb02.trans hb3'⟩;rw [iW,<-cQ];exact hB3'
   case measure=>simp [RowKit.intOf];omega
  ·have hje:j=ns:=by omega
   subst hje;have hnl: ¬ (j:Int)<(j:Int):=by omega
   obtain⟨c0,c1,c2,c3⟩:=hcell.out _ hbl;go_wp2;have hnll':(nl:Int)<=1000000:=by omega
   go_loopw [61] (fun i wr=> ∃q:Nat,q<=nl/\i= .int .i64 q/\Lib.IsBuilderF 119 5 b b (Lib.byteCells (jQ nb++(iW sf j++kN lf tn tf q))) wr/\Below b W2 wr) (fun i _=>nl - (RowKit.intOf i).toNat)
   case atStart=>exact⟨0,Nat.zero_le _,rfl,by simpa [kN]using hB,hbl⟩
   case round=>
    clear c0 c1 c2 c3 hB hbl;obtain⟨q,hq,rfl,hB,hbl⟩:=hrel;rcases Nat.lt_or_ge q nl with hql|hql
    ·have hlt:(q:Int)<(nl:Int):=by omega
     obtain⟨bs,o,ta,tc,rfl,hcs,hct,htr⟩:=hl.out q hql;have hbs:bs<b:=eJ (mF hct) (by omega);have hcw: ∀g,g<5->wr.cell? ⟨bs,o+(q*6+g),none⟩=some (.int .i64 (lf q g)):=fun g hg=>
      cell_below hbl hbs (cell_below hW2 (mF (hcs g hg)) (hcs g hg))
     have q0:=hcw 0 (by omega);have q1:=hcw 1 (by omega);have q2:=hcw 2 (by omega);have q3:=hcw 3 (by omega);have q4:=hcw 4 (by omega);have q5:wr.cell? ⟨bs,o+(q*6+5),none⟩=some (.slice ta (tn q) tc):=cell_below hbl hbs (cell_below hW2 (mF hct) hct);rw [Nat.add_zero]at q0;rw [<-ec]at q1 q2 q3 q4 q5;clear hcw;have hcs:Hid _:=hcs;have hct:Hid _:=hct;have htr:Hid _:=htr;go_wp2;have hm:Tryz.prog.follows .mixedOrders=true:=by kernel_rfl
     generalize hx:wr.heap.size=x;refine wp_region_held (S:=S6 x (lf q) ta (tn q) tc) hm ?_;obtain⟨V0,hV0⟩: ∃V0,V0=(wr.alloc (X6 (lf q) ta (tn q) tc)).drew:=⟨_,rfl⟩;change wpAnyH _ _ _ _ _ 20 _ _ (World.drew (wr.alloc (X6 (lf q) ta (tn q) tc)));rw [<-hV0];have hx0:V0.heap[x]? =some (X6 (lf q) ta (tn q) tc):=by subst hV0 hx;exact heap_alloc_new wr _
     have hV0s:V0.heap.size=x+1:=by subst hV0;simp [hx]
     have hwV:Below wr.heap.size wr V0:=by subst hV0;exact((Below.refl _ wr).alloc (cx _) _).trans ⟨rfl,rfl,rfl,cx _,fun _ _=>rfl⟩
     have hbx:b<x:=by have:=hbl.size;omega
     have hBV:=jB hB hwV;have hV0b:Below b W2 V0:=hbl.trans (hwV.mono (by omega));have hS0:S6 x (lf q) ta (tn q) tc V0:=GR hx0;clear hV0 q0 q1 q2 q3 q4 q5 hwV;refine take_at (i:=0) (d:=65) (v:= .iface 9 (.string ⟨#[108,105,110,107]⟩)) rfl rfl rfl (by kernel_rfl) (by kernel_rfl) (by kernel_rfl) (fun _ _ _ _ h _=>h) (fun V hV=> ?_) hS0 ?_
     ·obtain⟨v0,v1,v2,v3,v4,v5⟩:=hV;clear hS0
      go_simp
     simp only [eo,ep,ew];refine take_at (i:=1) (d:=66) (v:= .pointer (some ⟨x,0,none⟩)) rfl rfl rfl (by kernel_rfl) (by kernel_rfl) (by kernel_rfl) (fun _ _ _ _ h _=>h) (fun V hV=> ?_) hS0 ?_
     ·obtain⟨v0,v1,v2,v3,v4,v5⟩:=hV;clear hS0
      go_simp
     simp only [eo,ep,ew];refine take_at (i:=2) (d:=67) (v:= .int .i64 (lf q 0)) rfl rfl rfl (by kernel_rfl) (by kernel_rfl) (by kernel_rfl) (fun _ _ _ _ h _=>h) (fun V hV=> ?_) hS0 ?_
     ·obtain⟨v0,v1,v2,v3,v4,v5⟩:=hV;clear hS0
      go_simp
     simp only [eo,ep,ew];refine take_at (i:=3) (d:=68) (v:= .iface 3 (.int .i64 (lf q 0))) rfl rfl rfl (by kernel_rfl) (by kernel_rfl) (by kernel_rfl) (fun _ _ _ _ h _=>h) (fun V hV=> ?_) hS0 ?_
     ·obtain⟨v0,v1,v2,v3,v4,v5⟩:=hV;clear hS0
      go_simp
     simp only [eo,ep,ew];refine take_at (i:=4) (d:=69) (v:= .pointer (some ⟨x,1,none⟩)) rfl rfl rfl (by kernel_rfl) (by kernel_rfl) (by kernel_rfl) (fun _ _ _ _ h _=>h) (fun V hV=> ?_) hS0 ?_
     ·obtain⟨v0,v1,v2,v3,v4,v5⟩:=hV;clear hS0
      go_simp
     simp only [eo,ep,ew];refine take_at (i:=5) (d:=70) (v:= .int .i64 (lf q 1)) rfl rfl rfl (by kernel_rfl) (by kernel_rfl) (by kernel_rfl) (fun _ _ _ _ h _=>h) (fun V hV=> ?_) hS0 ?_
     ·obtain⟨v0,v1,v2,v3,v4,v5⟩:=hV;clear hS0
      go_simp
     simp only [eo,ep,ew];refine take_at (i:=6) (d:=71) (v:= .iface 3 (.int .i64 (lf q 1))) rfl rfl rfl (by kernel_rfl) (by kernel_rfl) (by kernel_rfl) (fun _ _ _ _ h _=>h) (fun V hV=> ?_) hS0 ?_
     ·obtain⟨v0,v1,v2,v3,v4,v5⟩:=hV;clear hS0
      go_simp
     simp only [eo,ep,ew];refine take_at (i:=8) (d:=73) (v:= .pointer (some ⟨x,2,none⟩)) rfl rfl rfl (by kernel_rfl) (by kernel_rfl) (by kernel_rfl) (fun _ _ _ _ h _=>h) (fun V hV=> ?_) hS0 ?_
     ·obtain⟨v0,v1,v2,v3,v4,v5⟩:=hV;clear hS0
      go_simp
     simp only [eo,ep,ew];refine take_at (i:=9) (d:=74) (v:= .int .i64 (lf q 2)) rfl rfl rfl (by kernel_rfl) (by kernel_rfl) (by kernel_rfl) (fun _ _ _ _ h _=>h) (fun V hV=> ?_) hS0 ?_
     ·obtain⟨v0,v1,v2,v3,v4,v5⟩:=hV;clear hS0
      go_simp
     simp only [eo,ep,ew];refine take_at (i:=12) (d:=77) (v:= .pointer (some ⟨x,3,none⟩)) rfl rfl rfl (by kernel_rfl) (by kernel_rfl) (by kernel_rfl) (fun _ _ _ _ h _=>h) (fun V hV=> ?_) hS0 ?_
     ·obtain⟨v0,v1,v2,v3,v4,v5⟩:=hV;clear hS0
      go_simp
     simp only [eo,ep,ew];refine take_at (i:=13) (d:=78) (v:= .int .i64 (lf q 3)) rfl rfl rfl (by kernel_rfl) (by kernel_rfl) (by kernel_rfl) (fun _ _ _ _ h _=>h) (fun V hV=> ?_) hS0 ?_
     ·obtain⟨v0,v1,v2,v3,v4,v5⟩:=hV;clear hS0
      go_simp
     simp only [eo,ep,ew];refine take_at (i:=14) (d:=79) (v:= .iface 3 (.int .i64 (lf q 3))) rfl rfl rfl (by kernel_rfl) (by kernel_rfl) (by kernel_rfl) (fun _ _ _ _ h _=>h) (fun V hV=> ?_) hS0 ?_
     ·obtain⟨v0,v1,v2,v3,v4,v5⟩:=hV;clear hS0
      go_simp
     simp only [eo,ep,ew];refine take_at (i:=15) (d:=80) (v:= .pointer (some ⟨x,4,none⟩)) rfl rfl rfl (by kernel_rfl) (by kernel_rfl) (by kernel_rfl) (fun _ _ _ _ h _=>h) (fun V hV=> ?_) hS0 ?_
     ·obtain⟨v0,v1,v2,v3,v4,v5⟩:=hV;clear hS0
      go_simp
     simp only [eo,ep,ew];refine take_at (i:=16) (d:=81) (v:= .int .i64 (lf q 4)) rfl rfl rfl (by kernel_rfl) (by kernel_rfl) (by kernel_rfl) (fun _ _ _ _ h _=>h) (fun V hV=> ?_) hS0 ?_
     ·obtain⟨v0,v1,v2,v3,v4,v5⟩:=hV;clear hS0
      go_simp
     simp only [eo,ep,ew];refine take_at (i:=17) (d:=82) (v:= .iface 3 (.int .i64 (lf q 4))) rfl rfl rfl (by kernel_rfl) (by kernel_rfl) (by kernel_rfl) (fun _ _ _ _ h _=>h) (fun V hV=> ?_) hS0 ?_
     ·obtain⟨v0,v1,v2,v3,v4,v5⟩:=hV;clear hS0
      go_simp
     simp only [eo,ep,ew];refine fw (i:=7) (by kernel_rfl) rfl rfl (fun K hK=> ?_);go_wp2_with (go_at_call 65;refine(CS _).mono ?_);rintro e V1 ⟨rfl,hV1⟩;rw [hV0s];have hV1m:V1.heap[x+1]? =some (.map (fI BA BL BN) 3):=by rw [hV1,<-hV0s];exact heap_alloc_new V0 _
     have hV1s:V1.heap.size=x+2:=by rw [hV1];simp;omega
     have hV01:Below (x+1) V0 V1:=by rw [hV1,<-hV0s];exact(Below.refl _ V0).alloc (cx _) _
     clear hV1;have hx1:V1.heap[x]? =some (X6 (lf q) ta (tn q) tc):=by rw [hV01.block x (by omega)];exact hx0
     have hS1:S6 x (lf q) ta (tn q) tc V1:=GR hx1;refine hK _ _ ⟨hS1, ?_⟩;clear hK hS0 hx0;refine fw (i:=10) (by kernel_rfl) rfl rfl (fun K hK=> ?_);go_wp2_with (go_at_call 64;refine(Uz (x+1) BA BL BN (lf q 2) _ hV1m).mono ?_);rintro e V2 ⟨rfl,w1,seen,had,hV2⟩;have hV2s:V2.heap.size=x+3:=by rw [hV2];simp [had.1];omega
     have hV12:Below (x+2) V1 V2:=by rw [hV2,<-hV1s];exact(had.below _).trans ((Below.refl _ w1).alloc (by rw [had.1];exact cx _) _)
     clear hV2 had;have hx2:V2.heap[x]? =some (X6 (lf q) ta (tn q) tc):=by rw [hV12.block x (by omega)];exact hx1
     have hS2:S6 x (lf q) ta (tn q) tc V2:=GR hx2;refine hK _ _ ⟨hS2, ?_⟩;clear hK hS1 hx1 hV1m;refine fw (i:=11) (by kernel_rfl) rfl rfl (fun K hK=> ?_);go_wp2;refine⟨hS2, ?_⟩;have hxA: ∀o,(V2.alloc o).heap[x]? =some (X6 (lf q) ta (tn q) tc):=fun o=>by rw [heap_alloc_old V2 _ (by omega)];exact hx2
     refine fw (i:=18) (by kernel_rfl) rfl rfl (fun K hK=> ?_);have hxA:Hid _:=hxA;go_wp2;refine⟨GR (hxA.out _), ?_⟩;refine fw (i:=19) (by kernel_rfl) rfl rfl (fun K hK=> ?_);go_wp2;refine⟨GR (hxA.out _),wpAnyH_done (by kernel_rfl) ?_ _⟩;have hV02:Below (x+1) V0 V2:=hV01.trans (hV12.mono (by omega));have hB2:=jB hBV (hV0s ▸ hV02);have hb02:Below b W2 V2:=hV0b.trans (hV02.mono (by omega));clear hBV hV02 hV01 hV12 hV0b hS2 hx2;obtain⟨V3,hV3⟩: ∃V3,V3=V2.alloc (.cells #[.iface 9 (.string ⟨#[108,105,110,107]⟩), .iface 3 (.int .i64 (lf q 0)), .iface 3 (.int .i64 (lf q 1)), .iface 9 (.string (sb (xK BA BL BN (lf q 2)))), .iface 3 (.int .i64 (lf q 3)), .iface 3 (.int .i64 (lf q 4))] 20):=⟨_,rfl⟩;rw [<-hV3];have hx3:V3.heap[x]? =some (X6 (lf q) ta (tn q) tc):=hV3 ▸ hxA.out _;have hown:V3.ownsRowF (x+3) 20 1 (.slice (some ⟨x+3,0,none⟩) 6 6) 6 ((zY (lf q)).map SI):=by
      refine⟨rfl, .inr ⟨x+3,6,_,(0,0),rfl,cx _,by rw [hV3,<-hV2s];exact heap_alloc_new V2 _,by decide,by decide,by decide,rfl,rfl⟩⟩
     have hB3:Lib.IsBuilderF 119 5 b b (Lib.byteCells (jQ nb++(iW sf j++kN lf tn tf q))) V3:=hV3 ▸ BV hB2 _;have hb03:Below b W2 V3:=hV3 ▸ hb02.alloc (by omega) _;have hV3s:V3.heap.size=x+4:=by rw [hV3];simp;omega
     clear hV3 hxA hB2 hb02;obtain⟨_,_,_,_,_,c5⟩:=GR hx3;go_wp2;have htn:(tn q:Int)<=1000:=by have:=(hlb.out q hql).2.1;omega
     go_loopw [11,87] (fun v i wr=> ∃g k cap:Nat,g<=tn q/\i= .int .i64 g/\v= .slice (some ⟨k,0,none⟩) (6+g) cap/\wr.ownsRowF (x+3) 20 1 (.slice (some ⟨k,0,none⟩) (6+g) cap) (6+g) ((zY (lf q)++ED (tf q) g).map SI)/\Lib.IsBuilderF 119 5 b b (Lib.byteCells (jQ nb++(iW sf j++kN lf tn tf q))) wr/\Below b W2 wr/\x+4<=wr.heap.size) (fun _ i _=>tn q - (RowKit.intOf i).toNat)
     case atStart=>exact⟨0,x+3,6,Nat.zero_le _,rfl,rfl,by simpa [ED]using hown,hB3,hb03,by omega⟩
     case round=>
      clear c5 hx3 hown hB3 hb03 hV3s hB hbl;obtain⟨g,k,cap,hg,rfl,rfl,hown,hB,hbl,hsz⟩:=hrel;rcases Nat.lt_or_ge g (tn q)with hgl|hgl
      ·have hlt:(g:Int)<(tn q:Int):=by omega
       obtain⟨b2,o2,rfl,hc2⟩:=htr.out g hgl;have hb2':b2<b:=eJ (mF (hc2 0 (by omega))) (by omega);have hcw: ∀i,i<2->wr.cell? ⟨b2,o2+(g*2+i),none⟩=some (.int .i64 (tf q g i)):=fun i hi=>cell_below hbl hb2' (cell_below hW2 (mF (hc2 i hi)) (hc2 i hi));have q0:=hcw 0 (by omega);have q1:=hcw 1 (by omega);rw [Nat.add_zero]at q0;rw [<-ec]at q1;clear hcw;have hc2:Hid _:=hc2;have hown:Hid _:=hown;go_wp2;have hm:Tryz.prog.follows .mixedOrders=true:=by kernel_rfl
       generalize hy:wr.heap.size=y at hsz;refine wp_region_held (S:=S2 y (tf q g)) hm ?_;obtain⟨V0,hV0⟩: ∃V0,V0=(wr.alloc (X2 (tf q g))).drew:=⟨_,rfl⟩;change wpAnyH _ _ _ _ _ 13 _ _ (World.drew (wr.alloc (X2 (tf q g))));rw [<-hV0];have hx0:V0.heap[y]? =some (X2 (tf q g)):=by subst hV0 hy;exact heap_alloc_new wr _
       have hV0s:V0.heap.size=y+1:=by subst hV0;simp [hy]
       have hwV:Below wr.heap.size wr V0:=by subst hV0;exact((Below.refl _ wr).alloc (cx _) _).trans ⟨rfl,rfl,rfl,cx _,fun _ _=>rfl⟩
       have hB0:=jB hB hwV;have hown0:Hid _:=yj hown.out hwV;have hV0b:Below b W2 V0:=hbl.trans (hwV.mono (by omega));have hS0:S2 y (tf q g) V0:=Hy hx0;obtain⟨hr0,hs0⟩:=(hlb.out q hql).2.2 g hgl 0 (by omega);obtain⟨hr1,hs1⟩:=(hlb.out q hql).2.2 g hgl 1 (by omega);have hz0:(sb (Lib.itoa (tf q g 0))).size<=100:=hs0;have hz1:(sb (Lib.itoa (tf q g 1))).size<=100:=hs1;have hV0i:zi b V0:=htb.out.on hV0b;clear hV0 q0 q1 hwV hB hbl hown;refine take_at (i:=0) (d:=91) (v:= .slice (some ⟨k,0,none⟩) (6+g) cap) rfl rfl rfl (by kernel_rfl) (by kernel_rfl) (by kernel_rfl) (fun _ _ _ _ h _=>h) (fun V hV=> ?_) hS0 ?_
       ·obtain⟨v0,v1⟩:=hV;clear hS0
        go_simp
       simp only [eo,ep,ew];refine take_at (i:=1) (d:=92) (v:= .pointer (some ⟨y,0,none⟩)) rfl rfl rfl (by kernel_rfl) (by kernel_rfl) (by kernel_rfl) (fun _ _ _ _ h _=>h) (fun V hV=> ?_) hS0 ?_
       ·obtain⟨v0,v1⟩:=hV;clear hS0
        go_simp
       simp only [eo,ep,ew];refine take_at (i:=2) (d:=93) (v:= .int .i64 (tf q g 0)) rfl rfl rfl (by kernel_rfl) (by kernel_rfl) (by kernel_rfl) (fun _ _ _ _ h _=>h) (fun V hV=> ?_) hS0 ?_
       ·obtain⟨v0,v1⟩:=hV;clear hS0
        go_simp
       simp only [eo,ep,ew];refine take_at (i:=5) (d:=96) (v:= .pointer (some ⟨y,1,none⟩)) rfl rfl rfl (by kernel_rfl) (by kernel_rfl) (by kernel_rfl) (fun _ _ _ _ h _=>h) (fun V hV=> ?_) hS0 ?_
       ·obtain⟨v0,v1⟩:=hV;clear hS0
        go_simp
       simp only [eo,ep,ew];refine take_at (i:=6) (d:=97) (v:= .int .i64 (tf q g 1)) rfl rfl rfl (by kernel_rfl) (by kernel_rfl) (by kernel_rfl) (fun _ _ _ _ h _=>h) (fun V hV=> ?_) hS0 ?_
       ·obtain⟨v0,v1⟩:=hV;clear hS0
        go_simp
       simp only [eo,ep,ew];refine fw (i:=3) (by kernel_rfl) rfl rfl (fun K hK=> ?_);go_wp2_with (go_at_call 61;refine(kZ (tf q g 0) hr0.1 hr0.2 _ hV0i.here).mono ?_;rintro e V1 ⟨rfl,hV01⟩);have hx1:V1.heap[y]? =some (X2 (tf q g)):=by rw [hV01.block y (by omega)];exact hx0
       have hS1:S2 y (tf q g) V1:=Hy hx1;have hV1i:=hV0i.on (hV01.mono (show b<=V0.heap.size by omega));have hV1s:=hV01.size;refine⟨hS1, ?_⟩;clear hS0;refine take_at (i:=4) (d:=95) (v:= .string (sb (Lib.itoa (tf q g 0))++⟨#[58]⟩)) rfl rfl rfl (by kernel_rfl) (by kernel_rfl) (by kernel_rfl) (fun _ _ _ _ h _=>h) (fun V hV=> ?_) hS1 ?_
       ·clear hS1 hV hx1 hx0 hV01 hB0
        go_simp
        omega
       simp only [eo,ep,ew];refine fw (i:=7) (by kernel_rfl) rfl rfl (fun K hK=> ?_);go_wp2_with (go_at_call 61;refine(kZ (tf q g 1) hr1.1 hr1.2 _ hV1i.here).mono ?_;rintro e V2 ⟨rfl,hV12⟩);have hx2:V2.heap[y]? =some (X2 (tf q g)):=by rw [hV12.block y (by omega)];exact hx1
       have hS2:S2 y (tf q g) V2:=Hy hx2;refine⟨hS2, ?_⟩;clear hS1;have hV02:Below V0.heap.size V0 V2:=hV01.trans (hV12.mono hV1s);have hB2:=jB hB0 hV02;have hb02:Below b W2 V2:=hV0b.trans (hV02.mono (by omega));have hown2:Hid _:=yj hown0.out hV02;have hV2s:=hV02.size;clear hV01 hV12 hx1 hx0 hB0 hV0b hV1i hV0i hV02 hown0;refine take_at (i:=8) (d:=99) (v:= .string (sb (Lib.itoa (tf q g 0))++⟨#[58]⟩++sb (Lib.itoa (tf q g 1)))) rfl rfl rfl (by kernel_rfl) (by kernel_rfl) (by kernel_rfl) (fun _ _ _ _ h _=>h) (fun V hV=> ?_) hS2 ?_
       ·clear hS2 hV hx2 hB2
        go_simp
        omega
       simp only [eo,ep,ew];refine take_at (i:=9) (d:=100) (v:= .iface 9 (.string (sb (Lib.itoa (tf q g 0))++⟨#[58]⟩++sb (Lib.itoa (tf q g 1))))) rfl rfl rfl (by kernel_rfl) (by kernel_rfl) (by kernel_rfl) (fun _ _ _ _ h _=>h) (fun V hV=> ?_) hS2 ?_
       ·clear hS2 hV hx2 hB2
        go_simp
       simp only [eo,ep,ew];have hse:sb (Lib.itoa (tf q g 0))++⟨#[58]⟩++sb (Lib.itoa (tf q g 1))=sb (Lib.itoa (tf q g 0)++([58]++Lib.itoa (tf q g 1))):=by
        rw [show(⟨#[58]⟩:ByteArray)=sb [58]from rfl,G5,G5,cQ]
       rw [hse];clear hse;generalize hst:Lib.itoa (tf q g 0)++([58]++Lib.itoa (tf q g 1))=st;refine fw (i:=10) (by kernel_rfl) rfl rfl (fun K hK=> ?_);go_wp2;obtain⟨V3,hV3⟩: ∃V3,V3=V2.alloc (.cells #[.iface 9 (.string (sb st))] 20):=⟨_,rfl⟩;rw [<-hV3];have hwV:Below V2.heap.size V2 V3:=hV3 ▸ (Below.refl _ V2).alloc (cx _) _;have hx3:V3.heap[y]? =some (X2 (tf q g)):=by rw [hwV.block y (by omega)];exact hx2
       have hzc:V3.cell? ⟨V2.heap.size,0,none⟩=some (.iface 9 (.string (sb st))):=by subst hV3;simp only [World.cell?,heap_alloc_new];rfl
       refine⟨Hy hx3, ?_⟩;have hB3:=jB hB2 hwV;have hb03:=hb02.trans (hwV.mono (by omega));have hown3:=yj hown2.out hwV;have hV3s:=hwV.size;have hkx:x+3<=k/\k<V3.heap.size:=hown3.lt k rfl;have hkt: ∃c fz,V3.heap[k]? =some (.cells c 20 fz):=by
        obtain⟨_,h4⟩:=hown3;rcases h4 with⟨h4,_⟩|⟨g',cap',cur,fz,q1,q2,q3,_⟩;·cases h4
        ·cases q1;exact⟨_,_,q3⟩
       obtain⟨k',cap',V4,hrun,hown4,hgr⟩:=UG V3 (x+3) k (6+g) cap _ V2.heap.size (.iface 9 (.string (sb st))) hown3 hzc rfl (by omega) (by omega) 120;have hB4:=O0 hB3 hgr hkt;have hb34:Below b V3 V4:=below_grown hgr (by omega) (by omega);have hyk:y≠k:=fun e=>by subst e;obtain⟨c,fz,e⟩:=hkt;rw [hx3]at e;injection e with e;injection e with _ e _;exact absurd e (by decide)
       have hx4:V4.heap[y]? =some (X2 (tf q g)):=by rw [hgr.block y (by omega) (fun e=>by injection e with e;exact hyk e)];exact hx3
       have hV4s:=hgr.size;clear hV3 hS2 hx2 hwV hB2 hb02 hown2 hB3 hown3 hkt hzc hgr hx3;refine fw (i:=11) (by kernel_rfl) rfl rfl (fun K hK=> ?_);have hown4:Hid _:=hown4;refine Ld rfl rfl rfl hrun (hK _ _ ⟨Hy hx4, ?_⟩);simp only [Act.put,eo,ep,ew];refine fw (i:=12) (by kernel_rfl) rfl rfl (fun K hK=> ?_);clear hrun;go_wp2;refine⟨Hy hx4,wpAnyH_done (by kernel_rfl) ?_ _⟩;go_wp2
       go_roundw
       case rel=>
        refine⟨g+1,k',cap',hgl,by simp,by simp [ec], ?_,hB4,hb03.trans hb34,by omega⟩;have:=hown4.out;rw [ED,<-cQ,List.map_append,hst];exact this
       case measure=>simp [RowKit.intOf];omega
      ·have hge:g=tn q:=by omega
       subst hge;have hnl: ¬ (tn q:Int)<(tn q:Int):=by omega
       have hlj:(jQ nb++(iW sf j++kN lf tn tf q)).length+(qy (CU (lf q) (tn q) (tf q))).length<=140737488355328:=by
        have:=hlen2.out (q+1) hql;simp only [kN,b_]at this ⊢;omega
       have hwl:(CU (lf q) (tn q) (tf q)).length=6+tn q:=by simp [CU,nT,zY];omega
       have L2:Hid _:=Rb b k cap (6+tn q) (x+3) (jQ nb++(iW sf j++kN lf tn tf q)) (CU (lf q) (tn q) (tf q)) wr hwl (by omega) hown hB (by omega) (by omega) (Vb (hlb.out q hql).1) hlj (by omega) (htb.out.on hbl);clear hown hlj hwl;go_wp2_with (go_at_call 58;refine Calls.mono L2.out ?_;rintro e V5 ⟨rfl,hB5,hb5,hk5⟩)
       go_roundw
       case rel=>
        refine⟨q+1,hql,by simp, ?_,hbl.trans hb5⟩;rw [kN,<-cQ (iW sf j),<-cQ (jQ nb)];exact hB5
       case measure=>simp [RowKit.intOf];omega
    ·have hqe:q=nl:=by omega
     subst hqe;have hnl: ¬ (q:Int)<(q:Int):=by omega
     obtain⟨c0,c1,c2,c3⟩:=hcell.out _ hbl;go_wp2;have hnrl':(nr:Int)<=1000000:=by omega
     go_loopw [111] (fun i wr=> ∃r:Nat,r<=nr/\i= .int .i64 r/\Lib.IsBuilderF 119 5 b b (Lib.byteCells (jQ nb++(iW sf j++(kN lf tn tf q++qD rf r)))) wr/\Below b W2 wr) (fun i _=>nr - (RowKit.intOf i).toNat)
     case atStart=>exact⟨0,Nat.zero_le _,rfl,by simpa [qD]using hB,hbl⟩
     case round=>
      clear c0 c1 c2 c3 hB hbl;obtain⟨r,hrr,rfl,hB,hbl⟩:=hrel;rcases Nat.lt_or_ge r nr with hrl|hrl
      ·have hlt:(r:Int)<(nr:Int):=by omega
       obtain⟨bs,o,rfl,hcs⟩:=hr.out r hrl;have hbs:bs<b:=eJ (mF (hcs 0 (by omega))) (by omega);have hcw: ∀q,q<4->wr.cell? ⟨bs,o+(r*4+q),none⟩=some (.int .i64 (rf r q)):=fun q hq=>
        cell_below hbl hbs (cell_below hW2 (mF (hcs q hq)) (hcs q hq))
       have q0:=hcw 0 (by omega);have q1:=hcw 1 (by omega);have q2:=hcw 2 (by omega);have q3:=hcw 3 (by omega);rw [Nat.add_zero]at q0;rw [<-ec]at q1 q2 q3;clear hcw;have hcs:Hid _:=hcs;have hbs2:b<wr.heap.size:=by have:=hbl.size;omega
       have hB0:Lib.IsBuilderF 119 5 b b (Lib.byteCells (jQ nb++(iW sf j++(kN lf tn tf q++qD rf r)))) (wr.alloc (.cells #[.int .i64 (rf r 0), .int .i64 (rf r 1), .int .i64 (rf r 2), .int .i64 (rf r 3)] 76)):=BV hB _;have hb0:Below b W2 (wr.alloc (.cells #[.int .i64 (rf r 0), .int .i64 (rf r 1), .int .i64 (rf r 2), .int .i64 (rf r 3)] 76)):=hbl.alloc (by omega) _;have hokr:Hid (∀i,i<(Pe (rf r)).length->I9 ((Pe (rf r)).getD i default)):=fun i hi=>match i,hi with
        |0,_=>trivial
        |1,_=>hrb.out r hrl 0 (by omega)
        |2,_=>hrb.out r hrl 1 (by omega)
        |3,_=>hrb.out r hrl 2 (by omega)
        |4,_=>hrb.out r hrl 3 (by omega)
       have hlj:(jQ nb++(iW sf j++(kN lf tn tf q++qD rf r))).length+(qy (Pe (rf r))).length<=140737488355328:=by
        have:=hlen3.out (r+1) hrl;simp only [qD,b_]at this ⊢;omega
       have L3:Hid _:=yw b (wr.heap.size+1) _ (Pe (rf r)) _ (by simp) hB0 (by simp;omega) hokr hlj (by simp [Pe]) (htb.out.on hb0);clear hB hbl hokr hlj hB0;go_wp2_with (go_at_call 58;refine Calls.mono L3.out ?_;rintro e V5 ⟨rfl,hB5,hb5,hk5⟩)
       go_roundw
       case rel=>
        refine⟨r+1,hrl,by simp, ?_,hb0.trans hb5⟩;rw [qD,<-cQ (kN lf tn tf q),<-cQ (iW sf j),<-cQ (jQ nb)];exact hB5
       case measure=>simp [RowKit.intOf];omega
      ·have hre:r=nr:=by omega
       subst hre;have hnl2: ¬ (r:Int)<(r:Int):=by omega
       have hbw:b<=wr.heap.size:=by have:=hbl.size;omega
       have L4:Hid _:=Ij b _ wr hB hbw;go_wp2_with (go_at_call 66;refine Calls.mono L4.out ?_;rintro e V5 ⟨rfl,hb5⟩)
       go_ret2
       exact⟨rfl,hW2.trans ((hbl.trans hb5).mono (by omega))⟩
end Sg

namespace Sg
open Go Go.Proofs Go.RowKit
theorem oD {z:Int} (h:JU z=true): -9223372036854775808<=z/\z<=9223372036854775807:=by
 unfold JU at h;rw [cd,db,db]at h;exact h
theorem lN {n:Nat} {f:Nat->Bool} (h:Gg n f=true): ∀i,i<n->f i=true:=fun i hi=>by
 unfold Gg at h;rw [List.all_eq_true]at h;exact h i (cY.2 hi)
theorem Xc {F:Nat->Prop} {w:World} (h:GL F w):F 1/\ ∃E fz,w.heap[1]? =some (.cells ((List.range 20).map fun i=>Value.int .u64 ((10 ^ i:Nat):Int)).toArray E fz):=by
 obtain⟨h1,l,E,fz,h2,h3⟩:=h (1,fun l=>l=(List.range 20).map fun i=>Value.int .u64 ((10 ^ i:Nat):Int)) (by unfold Pm;exact ct);exact⟨h1,E,fz,h3 ▸ h2⟩
theorem BM {F:Nat->Prop} {w:World} (h:GL F w) (hF: ∀k,F k->k<w.heap.size):zi w.heap.size w:=fun w' hb=>by
 obtain⟨h1,E,fz,h2⟩:=Xc h;have hg:Tryz.prog.globalNamed "internal/strconv.uint64pow10" =some 1:=by kernel_rfl
 unfold Lib.TabIs World.var?;rw [hg];simp only [br];rw [hb.block 1 (hF 1 h1),h2];rfl
theorem KQ (sf:Nat->Nat->Int): ∀{i j:Nat},i<=j->(iW sf i).length<=(iW sf j).length
 |i,0,h=>by
   have:i=0:=by omega
   subst this;exact cx _
 |i,j+1,h=>by
  rcases Nat.lt_or_ge i (j+1)with h'|h'
  ·refine dC (KQ sf (Nat.le_of_lt_succ h')) ?_;rw [iW,b_];omega
  ·have:i=j+1:=by omega
   subst this;exact cx _
theorem K4 (lf:Nat->Nat->Int) (tn:Nat->Nat) (tf:Nat->Nat->Nat->Int): ∀{i j:Nat},i<=j->(kN lf tn tf i).length<=(kN lf tn tf j).length
 |i,0,h=>by
   have:i=0:=by omega
   subst this;exact cx _
 |i,j+1,h=>by
  rcases Nat.lt_or_ge i (j+1)with h'|h'
  ·refine dC (K4 lf tn tf (Nat.le_of_lt_succ h')) ?_;rw [kN,b_];omega
  ·have:i=j+1:=by omega
   subst this;exact cx _
theorem J7 (rf:Nat->Nat->Int): ∀{i j:Nat},i<=j->(qD rf i).length<=(qD rf j).length
 |i,0,h=>by
   have:i=0:=by omega
   subst this;exact cx _
 |i,j+1,h=>by
  rcases Nat.lt_or_ge i (j+1)with h'|h'
  ·refine dC (J7 rf (Nat.le_of_lt_succ h')) ?_;rw [qD,b_];omega
  ·have:i=j+1:=by omega
   subst this;exact cx _
theorem O7 {nb:Int} (h:JU nb=true):(jQ nb).length<=100:=by
 have hr:=oD h;have:=Lib.itoa_length_le nb hr.1 hr.2;simp [jQ,qy,rD,YB,jG];omega
abbrev Jj (nb:Int) (ns nl nr:Nat) (es el er:Nat->Nat->DV):SV:= .agg [.d (.int .i64 nb), .d (.sl none 5 ns es), .d (.sl none 6 nl el), .d (.sl none 4 nr er)]
theorem EX {ρ:Nat->Option Pl} {F:Nat->Prop} {w:World} {nb:Int} {ns nl nr:Nat} {es el er:Nat->Nat->DV} {vs:List Value} (h:dm ρ F w [Jj nb ns nl nr es el er] vs):
  ∃a b c ca cb cc,vs=[.agg #[.int .i64 nb, .slice a ns ca, .slice b nl cb, .slice c nr cc]]/\bG F w (.sl none 5 ns es) (.slice a ns ca)/\bG F w (.sl none 6 nl el) (.slice b nl cb)/\bG F w (.sl none 4 nr er) (.slice c nr cc):=by
 match vs,h with
 |[v],⟨⟨cs,hv,hl⟩,_⟩=>
  match cs,hl with
  |[v0,v1,v2,v3],⟨h0,h1,h2,h3,_⟩=>
   have h0:v0= .int .i64 nb:=h0;obtain⟨a,ca,e1,r1⟩:=h1;obtain⟨b,cb,e2,r2⟩:=h2;obtain⟨c,cc,e3,r3⟩:=h3;subst h0 e1 e2 e3 hv;exact⟨a,b,c,ca,cb,cc,rfl,⟨a,ca,rfl,r1⟩,⟨b,cb,rfl,r2⟩,⟨c,cc,rfl,r3⟩⟩
theorem LX {F:Nat->Prop} {w:World} {n k:Nat} {e:Nat->Nat->DV} {f:Nat->Nat->Int} {a:Option Addr} {c:Nat} (h:bG F w (.sl none k n e) (.slice a n c)) (he: ∀i,i<n-> ∀j,j<k->e i j= .int .i64 (f i j)):RdS w a n k f:=by
 obtain⟨a',c',e0,_,_,h3,_,h4⟩:=h;cases e0;intro i hi;cases a with
 |none=>have:=(h3 rfl).1;omega
 |some ad=>
  obtain⟨h5,h6⟩:=h4 ad rfl;obtain⟨blk,off,spot⟩:=ad;have hs:spot=none:=h5 (by omega);subst hs;refine⟨blk,off,rfl,fun j hj=> ?_⟩;obtain⟨_,u,hu,hr⟩:=h6 i hi j hj;rw [he i hi j hj]at hr;have hr:u= .int .i64 (f i j):=hr;rw [<-hr];exact hu
theorem XZ {F:Nat->Prop} {w:World} {n:Nat} {e:Nat->Nat->DV} {f:Nat->Nat->Int} {tn:Nat->Nat} {et:Nat->Nat->Nat->DV} {tf:Nat->Nat->Nat->Int} {a:Option Addr} {c:Nat} (h:bG F w (.sl none 6 n e) (.slice a n c)) (he: ∀i,i<n-> ∀j,j<5->e i j= .int .i64 (f i j))
  (h5: ∀i,i<n->e i 5= .sl none 2 (tn i) (et i)) (ht: ∀i,i<n-> ∀g,g<tn i-> ∀j,j<2->et i g j= .int .i64 (tf i g j)):RdL w a n f tn tf:=by
 obtain⟨a',c',e0,_,_,h3,_,h4⟩:=h;cases e0;intro i hi;cases a with
 |none=>have:=(h3 rfl).1;omega
 |some ad=>
  obtain⟨hs,h6⟩:=h4 ad rfl;obtain⟨blk,off,spot⟩:=ad;have hs:spot=none:=hs (by omega);subst hs;obtain⟨_,u,hu,hr⟩:=h6 i hi 5 (by omega);rw [h5 i hi]at hr;obtain⟨ta,tc,e1,r1⟩:=hr;subst e1;refine⟨blk,off,ta,tc,rfl,fun j hj=> ?_,hu,LX (F:=F) (e:=et i) ⟨ta,tc,rfl,r1⟩ (ht i hi)⟩;obtain⟨_,u,hu,hr⟩:=h6 i hi j (by omega);rw [he i hi j hj]at hr;have hr:u= .int .i64 (f i j):=hr;rw [<-hr];exact hu
theorem Kc {B:Base} {nb:Int} {ns nl nr:Nat} {es el er:Nat->Nat->DV} {c:Int} {vs:List Value} (hc:Fn Tryz.prog 8 [Jj nb ns nl nr es el er] [] (vI c) []) (hF: ∀k,B.F k->k<B.w.heap.size) (hg:GL B.F B.w) (hr:dm B.ρ B.F B.w [Jj nb ns nl nr es el er] vs)
  (W':World) (hb:Below B.w.heap.size B.w W'):Calls Tryz.prog 8 vs.toArray W' fun e w'=>e= .returned (.int .i64 c)/\Below W'.heap.size W' w':=by
 have g:Gr (fun _=>none) B.F B.w (fun _=>none) B.F W':=⟨fun _ _ h=>h,fun _ h=>h,fun k hk=>hb.block k (hF k hk)⟩;have hr':dm (fun _=>none) B.F W' [Jj nb ns nl nr es el er] vs:=by
  obtain⟨a,b,c',ca,cb,cc,rfl,r1,r2,r3⟩:=EX hr;exact⟨⟨_,rfl,rfl,bG.gr g.fz g.mem r1,bG.gr g.fz g.mem r2,bG.gr g.fz g.mem r3,trivial⟩,trivial⟩
 refine(hc.2 ⟨W',fun _=>none,B.F,fun _=>False,0,[]⟩ vs (fun k hk=>eJ (hF k hk) hb.size) ⟨fun _ _=>False,fun b ob h=>(by cases h),fun b ob k h=>(by cases h),fun b b' ob ob' k h=>(by cases h),fun _ _=>rfl,hg.gr g⟩ hr').mono ?_;rintro e w' ⟨v,ρ',F',rfl,fr,_,hv⟩;have hv:v= .int .i64 c:=hv;subst hv;exact⟨rfl,fr.os,fr.tape,fr.output.out,fr.size,fun k hk=>fr.mem k hk fun h=>h⟩
theorem Base.QG {B:Base} {w':World} (hF: ∀k,B.F k->k<B.w.heap.size) (hb:Below B.w.heap.size B.w w'):Fr B B.ρ B.F w':=
 ⟨hb.os,hb.tape,⟨hb.output,trivial⟩,hb.size,fun k hk _=>hb.block k hk,fun _ _ h=>h,fun k hk=> ⟨eJ (hF k hk) hb.size, .inl hk⟩,fun _ h=>h⟩
theorem Pk {nb:Int} {ns nl nr:Nat} {es el er:Nat->Nat->DV} {sf lf rf:Nat->Nat->Int} {tn:Nat->Nat} {et:Nat->Nat->Nat->DV} {tf:Nat->Nat->Nat->Int}
  (hc:Fn Tryz.prog 8 [Jj nb ns nl nr es el er] [] (vI 0) [])
  (hes: ∀i,i<ns-> ∀j,j<5->es i j= .int .i64 (sf i j)) (hel: ∀i,i<nl-> ∀j,j<5->el i j= .int .i64 (lf i j)) (hel5: ∀i,i<nl->el i 5= .sl none 2 (tn i) (et i))
  (het: ∀i,i<nl-> ∀g,g<tn i-> ∀j,j<2->et i g j= .int .i64 (tf i g j)) (her: ∀i,i<nr-> ∀j,j<4->er i j= .int .i64 (rf i j))
  (hok:fmtG nb ns nl nr sf lf rf tn tf=true):Fn Tryz.prog 23 [Jj nb ns nl nr es el er] [] (.eB [.one (.d (.str (sb (QC nb ns nl nr sf lf rf tn tf)))), .one (.d (.int .i64 0))]) []:=by
 unfold fmtG at hok;simp only [cd,dd]at hok;obtain⟨⟨⟨⟨⟨⟨⟨k0,k1⟩,k2⟩,k3⟩,k4⟩,k5⟩,k6⟩,k7⟩:=hok;have hsb: ∀i,i<ns-> ∀j,j<5-> -9223372036854775808<=sf i j/\sf i j<=9223372036854775807:=fun i hi j hj=>oD (lN (lN k2 i hi) j hj);have hrb: ∀i,i<nr-> ∀j,j<4-> -9223372036854775808<=rf i j/\rf i j<=9223372036854775807:=fun i hi j hj=>oD (lN (lN k6 i hi) j hj);have hlb: ∀i,i<nl->(∀j,j<5-> -9223372036854775808<=lf i j/\lf i j<=9223372036854775807)/\tn i<=1000/\ ∀g,g<tn i-> ∀j,j<2->(-9223372036854775808<=tf i g j/\tf i g j<=9223372036854775807)/\(Lib.itoa (tf i g j)).length<=100:=fun i hi=>by
  have:=lN k4 i hi;simp only [cd,dd]at this;obtain⟨⟨j1,j2⟩,j3⟩:=this;refine⟨fun j hj=>oD (lN j1 j hj),j2,fun g hg j hj=> ?_⟩;have hr:=oD (lN (lN j3 g hg) j hj);exact⟨hr,dC (Lib.itoa_length_le _ hr.1 hr.2) (by decide)⟩
 have hT:(jQ nb).length+((iW sf ns).length+((kN lf tn tf nl).length+(qD rf nr).length))<=140737488355328:=by
  unfold QC at k7;simpa only [b_]using k7
 refine⟨⟨_,Tryz.func23,rfl,rfl⟩,fun B vs hF hi hr=> ?_⟩;have hg:GL B.F B.w:=by obtain⟨ft,hi⟩:=hi;exact hi.gl
 have hck:=Kc hc hF hg hr;obtain⟨a,b,c,ca,cb,cc,rfl,r1,r2,r3⟩:=EX hr;refine(Oj B.w nb a b c ns nl nr ca cb cc sf lf rf tn tf (oD k0) (O7 k0) hsb k1 (fun j hj=>by have:=KQ sf hj;omega) hlb hrb k5 (fun j hj=>by have:=J7 rf hj;omega) k3 (fun j hj=>by have:=K4 lf tn tf hj;omega)
  (LX r1 hes) (XZ r2 hel hel5 het) (LX r3 her) (BM hg hF) hck).mono ?_
 rintro e w' ⟨he,hb⟩;obtain⟨ft,hi⟩:=hi;have g:Gr B.ρ B.F B.w B.ρ B.F w':=⟨fun _ _ h=>h,fun _ h=>h,fun k hk=>hb.block k (hF k hk)⟩;exact⟨_,B.ρ,B.F,he,Base.QG hF hb,⟨ft,fun b ob h=>(by cases h),fun b ob k h=>(by cases h),fun b b' ob ob' k h=>(by cases h),hi.fresh,hg.gr g⟩,⟨[.string (sb (QC nb ns nl nr sf lf rf tn tf)), .int .i64 0],rfl,rfl,rfl,trivial⟩⟩
end Sg

namespace Sg
open Go Go.Proofs Go.RowKit
def qU:Value:= .iface 169 (.agg #[])
theorem Bl (w:World):Calls Tryz.prog 93 #[.bool true] w fun e w'=>e= .returned (.tuple #[])/\w'=w:=by
 go_enter Tryz.func93,Tryz.ntmps93
 go_wp2
 go_end0
 exact⟨rfl,rfl⟩
theorem sV (w:World):Calls Tryz.prog 93 #[.bool false] w fun e w'=>e= .panicked [{v:=qU,recovered:=false}]/\w'=w:=by
 go_enter Tryz.func93,Tryz.ntmps93
 go_wp2;exact⟨rfl,rfl,rfl⟩
theorem IQ (s:ByteArray) (hmax:s.size<=1000000) (v:Int) (h:Lib.atoiAll s.data.toList= .ok v) (w:World):
  Calls Tryz.prog 139 #[.string s] w fun e w'=>e= .returned (.tuple #[.int .i64 v, .nilIface])/\Below w.heap.size w w':=
 (Any.strconv_Atoi_ok pJ s (by omega) v h w).mono fun e w' ⟨he,hw⟩=> ⟨he,by
  rcases hw with rfl|⟨t,rfl⟩;·exact .refl _ _
  ·exact Lib.bytesWorld_below _ _ _⟩
theorem RJ (s:ByteArray) (hmax:s.size<=1000000) (h: ∀v,Lib.atoiAll s.data.toList≠ .ok v) (w:World) (h4: ∃t v,w.cell? ⟨4,0,none⟩=some (.iface t v)) (h5: ∃t v,w.cell? ⟨5,0,none⟩=some (.iface t v)):
  Calls Tryz.prog 139 #[.string s] w fun e w'=>(∃n t v,e= .returned (.tuple #[.int .i64 n, .iface t v]))/\Below w.heap.size w w':=by
 obtain⟨t4,v4,h4⟩:=h4;obtain⟨t5,v5,h5⟩:=h5;cases hc:Lib.atoiAll s.data.toList with
 |ok v=>exact absurd hc (h v)
 |range=>exact(Any.strconv_Atoi_range pJ s (by omega) hc _ w h5 (.inr ⟨_,_,rfl⟩)).mono fun e w' ⟨N,he,_,_,hb⟩=> ⟨⟨_,_,_,he⟩,hb⟩
 |_=>exact(Any.strconv_Atoi_syntax pJ s (by omega) hc _ w h4 (.inr ⟨_,_,rfl⟩)).mono fun e w' ⟨N,he,_,_,hb⟩=> ⟨⟨_,_,_,he⟩,hb⟩
theorem Fv (s:ByteArray) (w:World):Calls Tryz.prog 140 #[.string s, .string ⟨#[45]⟩] w fun e w'=>e= .returned (.string (sb (Lib.trimPrefix s.data.toList [45])))/\w'=w:=
 Any.strings_TrimPrefix F6 s _ w
theorem Tw (b:Bool) (w:World):Calls Tryz.prog 93 #[.bool b] w fun e w'=>(bif b then e= .returned (.tuple #[])else e= .panicked [{v:=qU,recovered:=false}])/\w'=w:=by
 cases b;·exact sV w
 ·exact Bl w
theorem Ni (l:List UInt8):(sb l).size=l.length:=by simp [sb,ByteArray.size]
set_option maxHeartbeats 2000000 in
set_option maxRecDepth 100000 in
theorem zR (s:ByteArray) (hs:s.size<=1000000) (w:World) (htab:zi w.heap.size w) (h4: ∃t v,w.cell? ⟨4,0,none⟩=some (.iface t v)) (h5: ∃t v,w.cell? ⟨5,0,none⟩=some (.iface t v)):
  Calls Tryz.prog 123 #[.string s] w fun e w'=>(match numOf s with|some v=>e= .returned (.int .i64 v)|none=>e= .panicked [{v:=qU,recovered:=false}])/\Below w.heap.size w w':=by
 by_cases h: ∃v,Lib.atoiAll s.data.toList= .ok v
 ·obtain⟨v,hv⟩:=h;have hb:=Lib.atoiAll_bounds hv;by_cases h1:sb (Lib.itoa v)=s
  ·by_cases h2:(Lib.trimPrefix s.data.toList [45]).length<=9
   ·have hn:numOf s=some v:=by unfold numOf;rw [hv];simp [h1,h2]
    rw [hn];have h3:((sb (Lib.trimPrefix s.data.toList [45])).size:Int)<=9:=by rw [Ni];omega
    go_enter Tryz.func123,Tryz.ntmps123
    go_wp2_with (go_at_call 139;refine(IQ s hs v hv _).mono ?_);rintro e w1 ⟨rfl,hw1⟩;go_wp2_with (go_at_call 61;refine(kZ v hb.1 hb.2 _ (htab.on hw1).here).mono ?_);rintro e w2 ⟨rfl,hw2⟩;go_wp2_with (go_at_call 140;refine(Fv s _).mono ?_);rintro e w3 ⟨rfl,rfl⟩;go_wp2_with (go_at_call 93;refine(Bl _).mono ?_);rintro e w4 ⟨rfl,rfl⟩;go_wp2
    go_ret
    exact⟨rfl,hw1.trans (hw2.mono hw1.size)⟩
   ·have hn:numOf s=none:=by unfold numOf;rw [hv];simp [h2]
    rw [hn]
    go_enter Tryz.func123,Tryz.ntmps123
    go_wp2_with (go_at_call 139;refine(IQ s hs v hv _).mono ?_);rintro e w1 ⟨rfl,hw1⟩;go_wp2_with (go_at_call 61;refine(kZ v hb.1 hb.2 _ (htab.on hw1).here).mono ?_);rintro e w2 ⟨rfl,hw2⟩;go_wp2_with (go_at_call 140;refine(Fv s _).mono ?_);rintro e w3 ⟨rfl,rfl⟩;go_wp2_with (go_at_call 93;refine(Tw _ _).mono ?_);rintro e w4 ⟨he,rfl⟩;have h3: ¬ ((sb (Lib.trimPrefix s.data.toList [45])).size:Int)<=9:=by rw [Ni];omega
    rw [bz h3]at he;have he:e= .panicked [{v:=qU,recovered:=false}]:=he;subst he;go_wp2;exact⟨rfl,rfl,hw1.trans (hw2.mono hw1.size)⟩
  ·have hn:numOf s=none:=by unfold numOf;rw [hv];simp [h1]
   rw [hn];have h1':((sb (Lib.itoa v)).toList==s.toList)=false:=by rw [rE];exact bz h1
   go_enter Tryz.func123,Tryz.ntmps123
   go_wp2_with (go_at_call 139;refine(IQ s hs v hv _).mono ?_);rintro e w1 ⟨rfl,hw1⟩;go_wp2_with (go_at_call 61;refine(kZ v hb.1 hb.2 _ (htab.on hw1).here).mono ?_);rintro e w2 ⟨rfl,hw2⟩;go_wp2_with (go_at_call 93;refine(sV _).mono ?_);rintro e w4 ⟨rfl,rfl⟩;go_wp2;exact⟨rfl,rfl,hw1.trans (hw2.mono hw1.size)⟩
 ·have hn:numOf s=none:=by
   unfold numOf;cases hc:Lib.atoiAll s.data.toList with
   |ok v=>exact absurd ⟨v,hc⟩ h
   |range=>rfl
   |_=>rfl
  rw [hn]
  go_enter Tryz.func123,Tryz.ntmps123
  go_wp2_with (go_at_call 139;refine(RJ s hs (fun v e=>h ⟨v,e⟩) _ h4 h5).mono ?_);rintro e w1 ⟨⟨n,t,v,rfl⟩,hw1⟩;go_wp2_with (go_at_call 93;refine(sV _).mono ?_);rintro e w2 ⟨rfl,rfl⟩;go_wp2;exact⟨rfl,rfl,hw1⟩
end Sg

namespace Sg
open Go Go.Proofs Go.RowKit
def Fnw (B:Base) (w':World) (k:Nat):Prop:=B.F k\/(B.w.heap.size<=k/\k<w'.heap.size)
theorem pI {B:Base} {w':World} {v:Value} {res:TV} (hF: ∀k,B.F k->k<B.w.heap.size) (hi:HI B B.ρ B.F B.w (aP [])) (hb:Below B.w.heap.size B.w w') (hr:bE B.ρ (Fnw B w') w' res v):Post B res [] v w':=by
 obtain⟨ft,hi⟩:=hi;have g:Gr B.ρ B.F B.w B.ρ (Fnw B w') w':=⟨fun _ _ h=>h,fun _ h=> .inl h,fun k hk=>hb.block k (hF k hk)⟩;refine⟨B.ρ,Fnw B w',⟨hb.os,hb.tape,⟨hb.output,trivial⟩,hb.size,fun k hk _=>hb.block k hk,fun _ _ h=>h,fun k hk=> ?_,fun _ h=> .inl h⟩,⟨ft,fun b ob h=>(by cases h),fun b ob k h=>(by cases h),fun b b' ob ob' k h=>(by cases h),hi.fresh,hi.gl.gr g⟩,hr⟩;rcases hk with hk|hk;·exact⟨eJ (hF k hk) hb.size, .inl hk⟩
 ·exact⟨hk.2, .inr (.inr hk.1)⟩
theorem Ku (w:World) (n:Nat):Below w.heap.size w (w.drewN n):=⟨rfl,rfl,rfl,cx _,fun _ _=>rfl⟩
theorem Ru {F:Nat->Prop} {w:World} (h:GL F w): ∃m,w.cell? ⟨0,0,none⟩=some (.int .i64 m):=by
 obtain⟨_,l,E,fz,h3,m,h2⟩:=h (0,fun l=> ∃m,l=[.int .i64 m]) (by unfold Pm;exact .tail _ (.head _));exact⟨m,by rw [World.cell?,h3,h2];rfl⟩
theorem M4 {F:Nat->Prop} {w:World} (h:GL F w): ∃t v,w.cell? ⟨4,0,none⟩=some (.iface t v):=by
 obtain⟨_,l,E,fz,h3,t,v,h2⟩:=h (4,fun l=> ∃t v,l=[.iface t v]) (by unfold Pm;exact .tail _ (.tail _ (.head _)));exact⟨t,v,by rw [World.cell?,h3,h2];rfl⟩
theorem Nb {F:Nat->Prop} {w:World} (h:GL F w): ∃t v,w.cell? ⟨5,0,none⟩=some (.iface t v):=by
 obtain⟨_,l,E,fz,h3,t,v,h2⟩:=h (5,fun l=> ∃t v,l=[.iface t v]) (by unfold Pm;exact .tail _ (.tail _ (.tail _ (.head _))));exact⟨t,v,by rw [World.cell?,h3,h2];rfl⟩
theorem HI.gl {B:Base} {ρ:Nat->Option Pl} {F:Nat->Prop} {w:World} {h:Hp} (hi:HI B ρ F w h):GL F w:=by
 obtain⟨ft,hi⟩:=hi;exact hi.gl
theorem RB {ρ:Nat->Option Pl} {F:Nat->Prop} {w:World} {s:SV} {vs:List Value} (h:dm ρ F w [s] vs): ∃v,vs=[v]/\fB ρ F w s v:=by
 match vs,h with
 |[v],⟨h,_⟩=>exact⟨v,rfl,h⟩
theorem Zj {ρ:Nat->Option Pl} {F:Nat->Prop} {w:World} {s t:SV} {vs:List Value} (h:dm ρ F w [s,t] vs): ∃v u,vs=[v,u]/\fB ρ F w s v/\fB ρ F w t u:=by
 match vs,h with
 |[v,u],⟨h,g,_⟩=>exact⟨v,u,rfl,h,g⟩
theorem dO (b:Bool):Ga Tryz.prog qU 93 [.one (.d (.bool b))] [] (fun _=> .eB []) (fun _=>[]) (dP b):=by
 refine⟨fun{r} hr=> ⟨⟨_,Tryz.func93,rfl,rfl⟩,fun B vs hF hi hv=> ?_⟩,fun hr=> ⟨⟨_,Tryz.func93,rfl,rfl⟩,fun B vs hF hi hv=> ?_⟩⟩
 ·obtain⟨v,rfl,hv2⟩:=RB hv;have hv2:v= .bool b:=hv2;subst hv2;cases b with
  |false=>cases hr
  |true=>
   refine(Bl B.w).mono ?_;rintro e w' ⟨rfl,rfl⟩;obtain⟨ρ',F',h1,h2,h3⟩:=pI (v:= .tuple #[]) (res:= .eB []) hF hi (.refl _ _) ⟨[],rfl,trivial⟩;exact⟨_,ρ',F',rfl,h1,h2,h3⟩
 ·obtain⟨v,rfl,hv2⟩:=RB hv;have hv2:v= .bool b:=hv2;subst hv2;cases b with
  |true=>cases hr
  |false=>
   refine(sV B.w).mono ?_;rintro e w' ⟨rfl,rfl⟩;exact⟨rfl,pI hF hi (.refl _ _) ⟨[],rfl,trivial⟩⟩
theorem bA (s:ByteArray):Ga Tryz.prog qU 123 [.one (.d (.str s))] [] (fun r=> .v (.one (.d (.int .i64 r)))) (fun _=>[]) (aZ s):=by
 refine⟨fun{r} hr=> ⟨⟨_,Tryz.func123,rfl,rfl⟩,fun B vs hF hi hv=> ?_⟩,fun hr=> ⟨⟨_,Tryz.func123,rfl,rfl⟩,fun B vs hF hi hv=> ?_⟩⟩
 ·obtain⟨v,rfl,hv2⟩:=RB hv;have hv2:v= .string s:=hv2;subst hv2;unfold aZ at hr;cases hs:decide (s.size<=1000000)with
  |false=>rw [hs]at hr;cases hr
  |true=>
   rw [hs]at hr;have hn:numOf s=some r:=Option.some.inj hr;refine(zR s (of_decide_eq_true hs) B.w (BM hi.gl hF) (M4 hi.gl) (Nb hi.gl)).mono ?_;rw [hn];rintro e w' ⟨rfl,hb⟩;obtain⟨ρ',F',h1,h2,h3⟩:=pI (v:= .int .i64 r) (res:= .v (.one (.d (.int .i64 r)))) hF hi hb rfl;exact⟨_,ρ',F',rfl,h1,h2,h3⟩
 ·obtain⟨v,rfl,hv2⟩:=RB hv;have hv2:v= .string s:=hv2;subst hv2;unfold aZ at hr;cases hs:decide (s.size<=1000000)with
  |false=>rw [hs]at hr;cases hr
  |true=>
   rw [hs]at hr;have hn:numOf s=none:=Option.some.inj hr;refine(zR s (of_decide_eq_true hs) B.w (BM hi.gl hF) (M4 hi.gl) (Nb hi.gl)).mono ?_;rw [hn];rintro e w' ⟨rfl,hb⟩;exact⟨rfl,pI hF hi hb ⟨[],rfl,trivial⟩⟩
theorem rR (a b:ByteArray):gK Tryz.prog 71 [.one (.d (.str a)), .one (.d (.str b))] [] (fun r=> .eB [.one (.d (.str r.1)), .one (.d (.str r.2.1)), .one (.d (.bool r.2.2))]) (fun _=>[]) (jA a b):=by
 refine⟨fun{r} hr=> ⟨⟨_,Tryz.func71,rfl,rfl⟩,fun B vs hF hi hv=> ?_⟩⟩;obtain⟨v,u,rfl,hv,hu⟩:=Zj hv;have hv:v= .string a:=hv;have hu:u= .string b:=hu;subst hv hu;unfold jA at hr;cases hs:decide (a.size<4294967281)with
 |false=>rw [hs]at hr;cases hr
 |true=>
  rw [hs]at hr;have hr:=Option.some.inj hr;subst hr;obtain⟨m,hm⟩:=Ru hi.gl;refine(Any.strings_Cut FP a b m B.w (of_decide_eq_true hs) hm).mono ?_;rintro e w' ⟨rfl,n,rfl⟩;obtain⟨ρ',F',h1,h2,h3⟩:=pI (res:= .eB [.one (.d (.str (sb (Lib.cut a.data.toList b.data.toList).1))), .one (.d (.str (sb (Lib.cut a.data.toList b.data.toList).2.1))), .one (.d (.bool (Lib.cut a.data.toList b.data.toList).2.2))])
   hF hi (Ku B.w n) ⟨[_,_,_],rfl,rfl,rfl,rfl,trivial⟩
  exact⟨_,ρ',F',rfl,h1,h2,h3⟩
theorem zq (a b:ByteArray):gK Tryz.prog 69 [.one (.d (.str a)), .one (.d (.str b))] [] (fun r=> .v (.one (.d (bR none 1 cZ r)))) (fun _=>[]) (jo a b):=by
 refine⟨fun{r} hr=> ⟨⟨_,Tryz.func69,rfl,rfl⟩,fun B vs hF hi hv=> ?_⟩⟩;obtain⟨v,u,rfl,hv,hu⟩:=Zj hv;have hv:v= .string a:=hv;have hu:u= .string b:=hu;subst hv hu;unfold jo at hr;cases hs:(decide (a.size<4294967281) && decide (1<=b.size))with
 |false=>rw [hs]at hr;cases hr
 |true=>
  rw [hs]at hr;have hr:=Option.some.inj hr;rw [cd,db,db]at hs;obtain⟨m,hm⟩:=Ru hi.gl;have hlen:r.length=Lib.countB a b+1:=by rw [<-hr];exact Lib.splitB_all b hs.2 0 _ a rfl
  refine(Any.strings_Split Gc (by kernel_rfl) a b m B.w hs.1 hm hs.2).mono ?_;rintro e w' ⟨rfl,rfl⟩;rw [hr,<-hlen];have p:=Push.alloc B.w (.cells (r.map Value.string).toArray 9);have hb:Below B.w.heap.size B.w (B.w.alloc (.cells (r.map Value.string).toArray 9)):=⟨rfl,rfl,rfl,by rw [p.sz];omega,fun k hk=>p.old hk⟩;obtain⟨ρ',F',h1,h2,h3⟩:=pI (v:= .slice (some ⟨B.w.heap.size,0,none⟩) r.length r.length) (res:= .v (.one (.d (bR none 1 cZ r)))) hF hi hb
   ⟨some ⟨B.w.heap.size,0,none⟩,r.length,rfl,(fun h=>by cases h),(fun h=>by cases h),(fun h=>by cases h),cx _,fun ad had=>by
    cases had;refine⟨fun _=>rfl,fun i hi j hj=> ⟨.inr ⟨cx _,by have:=p.sz;simp only at this ⊢;omega⟩, .string (r.getD i default), ?_,rfl⟩⟩;have hj0:j=0:=by omega
    subst hj0;rw [bS p.new,cC,Nat.mul_one,Nat.add_zero,dj,cS,cR hi];rfl⟩
  exact⟨_,ρ',F',rfl,h1,h2,h3⟩
theorem recAt {B:Base} {b:Nat} {x:Bool} {vs:List Value} (hi:HI B B.ρ B.F B.w (aP [(b,some (.cells 4 [.d (.bool x)]))])) (hv:dm B.ρ B.F B.w [.one (.ptr b 0)] vs):
  ∃k cap,B.ρ b=some (.blk k 0 cap)/\vs=[.pointer (some ⟨k,0,none⟩)]/\B.w.heap[k]? =some (.cells #[.bool x] 4 (0,0)):=by
 obtain⟨v,rfl,k,base,cap,h1,rfl⟩:=RB hv;obtain⟨ft,hi⟩:=hi;obtain⟨k',cap',us,h2,_,h3,h4⟩:=hi.obj b (.cells 4 [.d (.bool x)]) (by simp [aP,get]);rw [h1]at h2;cases h2
 match us,h4 with
 |[u],⟨hu,_⟩=>
  have hu:u= .bool x:=hu;subst hu;exact⟨k,cap,h1,rfl,h3⟩
theorem L8 {B:Base} (hF: ∀k,B.F k->k<B.w.heap.size):Fr B B.ρ B.F B.w:=⟨rfl,rfl, .refl _,cx _,fun _ _ _=>rfl,fun _ _ h=>h,fun k hk=> ⟨hF k hk, .inl hk⟩,fun _ h=>h⟩
theorem Ui {B:Base} {b k cap:Nat} {x:Bool} (hF: ∀k,B.F k->k<B.w.heap.size) (hi:HI B B.ρ B.F B.w (aP [(b,some (.cells 4 [.d (.bool x)]))])) (h1:B.ρ b=some (.blk k 0 cap)) (h3:B.w.heap[k]? =some (.cells #[.bool x] 4 (0,0))):
  Post B (.eB []) [(b,some (.cells 4 [.d (.bool false)]))] (.tuple #[]) (B.w.setCell ⟨k,0,none⟩ (.bool false)):=by
 obtain⟨ft,hi⟩:=hi;have hob:(aP [(b,some (Ob.cells 4 [.d (.bool x)]))]) b=some (some (.cells 4 [.d (.bool x)])):=by simp [aP,get]
 obtain⟨k',cap',us,h2,hs,h4,_⟩:=hi.obj b _ hob;rw [h1]at h2;cases h2;have hblk:=hi.blk b _ k hob hs;have pt:Put B.w (B.w.setCell ⟨k,0,none⟩ (.bool false)) k:=⟨by simp [World.setCell],fun j hj=>by simp [World.setCell,Array.getElem?_modify,Ne.symm hj],rfl,rfl,⟨rfl,trivial⟩⟩;have hh:(B.w.setCell ⟨k,0,none⟩ (.bool false)).heap[k]? =some (.cells #[.bool false] 4 (0,0)):=by
  simp [World.setCell,Array.getElem?_modify,h3]
 have:=pt.hi (L8 hF) hi hob hs (nob:= .cells 4 [.d (.bool false)]) (S:=ft b) (fun _ h=>h) ⟨k,cap,[.bool false],h1,hs,hh,rfl,trivial⟩;have e:upd (aP [(b,some (Ob.cells 4 [.d (.bool x)]))]) [(b,some (.cells 4 [.d (.bool false)]))]=aP [(b,some (.cells 4 [.d (.bool false)]))]:=by
  funext c
  simp only [upd,aP,get];cases Nat.beq b c<;>rfl
 rw [e]at this;exact⟨B.ρ,B.F,pt.fr (L8 hF) hblk.2.2,⟨_,this⟩,[],rfl,trivial⟩
theorem Tc (b:Nat) (x:Bool):Sq Tryz.prog .returning .returning 92 [.one (.ptr b 0)] [(b,some (.cells 4 [.d (.bool x)]))] [(b,some (.cells 4 [.d (.bool x)]))]:=by
 refine⟨⟨_,Tryz.func92,rfl,rfl⟩,fun B vs hF hi hv=> ?_⟩;obtain⟨k,cap,h1,rfl,h3⟩:=recAt hi hv;refine tN Tryz.func92 rfl fun c₀ cs hu=> ?_;apply wpS_seq;apply wpS_region;simp [wpOpsS,go_sem,recoverD,hu,Tryz.ntmps92,Exit.thenS];apply wpS_seq;apply wpS_region;simp [wpOpsS,go_sem,Act.eval,Array.replicate];refine wpS_cond (t:=false) (by simp [Act.eval,Array.replicate]) ?_;simp only [Bool.false_eq_true,if_false];refine wpS_of_wp (wp_skip ?_);exact⟨rfl, .returning,by cases c₀;simp_all, .tuple #[],by simp [results,Tryz.results92],rfl, .tuple #[],rfl,B.ρ,B.F,L8 hF,hi,[],rfl,trivial⟩
set_option maxRecDepth 100000 in
theorem Td (b:Nat) (x:Bool):Sq Tryz.prog (.panicking [{v:=qU,recovered:=false}]) (.panicking [{v:=qU,recovered:=true}]) 92 [.one (.ptr b 0)] [(b,some (.cells 4 [.d (.bool x)]))] [(b,some (.cells 4 [.d (.bool false)]))]:=by
 refine⟨⟨_,Tryz.func92,rfl,rfl⟩,fun B vs hF hi hv=> ?_⟩;obtain⟨k,cap,h1,rfl,h3⟩:=recAt hi hv;have hc:B.w.cell? ⟨k,0,none⟩=some (.bool x):=by simp [World.cell?,h3]
 have hz:B.w.frozen? ⟨k,0,none⟩=false:=by simp [World.frozen?,h3]
 refine tN Tryz.func92 rfl fun c₀ cs hu=> ?_;apply wpS_seq;apply wpS_region;simp [wpOpsS,go_sem,recoverD,hu,Tryz.ntmps92,Exit.thenS];apply wpS_seq;apply wpS_region;simp [wpOpsS,go_sem,Act.eval,Array.replicate,qU];refine wpS_cond (t:=true) (by simp [Act.eval,Array.replicate]) ?_;simp only [if_true];apply wpS_seq;apply wpS_region;simp [wpOpsS,go_sem,Act.eval,Array.replicate,qU];apply wpS_region;simp [wpOpsS,go_sem,hc,hz,bodyPostS,results,Tryz.results92];exact Ui hF hi h1 h3
end Sg

namespace Sg
open Go Go.Proofs Go.RowKit
end Sg

namespace Sg
open Go Go.Proofs Go.RowKit
set_option maxHeartbeats 1000000 in
set_option maxRecDepth 100000 in
theorem MC (W:World) (nb c:Int) (az al ar:Option Addr) (ns nl nr cs cl cr:Nat) (hc:c≠0)
  (hchk: ∀W',Below W.heap.size W W'->Calls Tryz.prog 8 #[.agg #[.int .i64 nb, .slice az ns cs, .slice al nl cl, .slice ar nr cr]] W' fun e w'=>e= .returned (.int .i64 c)/\Below W'.heap.size W' w'):
  Calls Tryz.prog 23 #[.agg #[.int .i64 nb, .slice az ns cs, .slice al nl cl, .slice ar nr cr]] W fun e w'=>e= .returned (.tuple #[.string ⟨#[]⟩, .int .i64 c])/\Below W.heap.size W w':=by
 have hchk:Hid (∀W',Below W.heap.size W W'->Calls Tryz.prog 8 #[.agg #[.int .i64 nb, .slice az ns cs, .slice al nl cl, .slice ar nr cr]] W' fun e w'=>e= .returned (.int .i64 c)/\Below W'.heap.size W' w'):=hchk
 go_enter Tryz.func23,Tryz.ntmps23
 go_wp2_with (go_at_call 8;refine(hchk.out _ ((Below.refl _ W).alloc (cx _) _)).mono ?_);rintro e W1 ⟨rfl,hb1⟩;go_wp2
 go_ret2
 exact⟨rfl,((Below.refl _ W).alloc (cx _) _).trans (hb1.mono (by simp))⟩
theorem Gd {nb c:Int} {ns nl nr:Nat} {es el er:Nat->Nat->DV} (h0:c≠0) (hc:Fn Tryz.prog 8 [Jj nb ns nl nr es el er] [] (vI c) []):Fn Tryz.prog 23 [Jj nb ns nl nr es el er] [] (.eB [.one (.d (.str ⟨#[]⟩)), .one (.d (.int .i64 c))]) []:=by
 refine⟨⟨_,Tryz.func23,rfl,rfl⟩,fun B vs hF hi hr=> ?_⟩;have hck:=Kc hc hF hi.gl hr;obtain⟨a,b,d,ca,cb,cc,rfl,r1,r2,r3⟩:=EX hr;refine(MC B.w nb c a b d ns nl nr ca cb cc h0 hck).mono ?_;rintro e w' ⟨rfl,hb⟩;obtain⟨ρ',F',g1,g2,g3⟩:=pI (v:= .tuple #[.string ⟨#[]⟩, .int .i64 c]) (res:= .eB [.one (.d (.str ⟨#[]⟩)), .one (.d (.int .i64 c))]) hF hi hb ⟨[_,_],rfl,rfl,rfl,trivial⟩;exact⟨_,ρ',F',rfl,g1,g2,g3⟩
theorem wm (l:List Int):aB l.length 1 (aj (aN .u8) l) (fun i _=>(l.map (DV.int .u8)).getD i .nilp):=fun i hi j _=>by
 show DV.int .u8 (l.getD i default)=(l.map (DV.int .u8)).getD i .nilp;rw [cS,cS,dj,cR hi];rfl
end Sg

namespace Sg
open Go Go.ChangeShapes Go.WideShapes Go.RowKit
section
variable {P:Program} {t:TypeId}
theorem Rd.str (ht:P.underlying t=some .string) (hs:P.cellsOf t=1):Rd P t 1 cZ (fun _=>True):=by
 refine⟨hs,fun h=> ?_⟩;obtain⟨s,rfl,_⟩:=DataW.trod_string ht h;refine⟨s,trivial,rfl,fun j hj=> ?_⟩;have:j=0:=by omega
 subst this;exact⟨_,rfl,rfl⟩
end
theorem Fz {P:Program} {W:World} {n:String} {g:Nat} {cs:Array Value} (hg:P.globalNamed n=some g) (h:W.var? P n=some cs):g<W.heap.size/\ ∃E fz,W.heap[g]? =some (.cells cs E fz):=by
 unfold World.var? at h;rw [hg]at h;simp only [br]at h;cases e:W.heap[g]? with
 |none=>rw [e]at h;cases h
 |some o=>
  rw [e]at h;refine⟨(Array.getElem?_eq_some_iff.1 e).1, ?_⟩;cases o with
  |cells cs' E fz=>
   simp only [Option.some.injEq]at h;exact⟨E,fz,by rw [h]⟩
  |_=>cases h
theorem PD {P:Program} {w:World} {g:Nat} {t:TypeId} {zero:Array Value} (h:w.ShapedOpen P) (hg:g<P.globals.size) (h0:((begin P (fun _ _=>0) default).world.heap[g]?).bind Obj.row? =some (zero,t)) (hz:zero.size=1)
  (hb:P.buildable t=true) (hc:P.cellTypes P.depth t=some [t]) (hu:P.underlying t=some (.int .i64)): ∃m,w.heap[g]? =some (.cells (List.toArray [.int .i64 m]) t (0,0)):=by
 obtain⟨m,hm⟩:=Go.Proofs.cell_of_shapedOpen_int h hg h0 hz hb hc hu;obtain⟨cs,hh,hs,_⟩:=h.1 g zero t hg h0;refine⟨m, ?_⟩;rw [hh];simp only [World.cell?,hh]at hm;obtain⟨l⟩:=cs;rw [hz]at hs
 match l,hs with
 |[v],_=>
  have hm:some v=some (Value.int .i64 m):=hm;rw [Option.some.inj hm]
theorem I6 {H:Type} {enc:TypeId × Value->H} {a:Assume} {C:Checked} {os:Os} {f:FuncId} {fn:Func} {s:ChangeSpec} {conds:List PathCond} {apart fresh handsOn again:Bool} {X:World->Array Value->Prop}
  (hX: ∀(w w':World) (args:Array Value),w.heap=w'.heap->X w args->X w' args) (own:ownKnob C.prog.godebug=none) (started:os.Started) (noInit:C.prog.inits.idxOf? f=none) (hfn:C.prog.funcs[f]? =some fn)
  (witness: ∃(w:World) (tape:Tape) (i:Input),w.os=os/\(w.forCall tape i).Shaped C.prog/\i.vars=[]/\Input.okWide C.prog (w.forCall tape i) .any w.heap.size f i/\
   ((s.pre enc C.prog fn conds apart (w.forCall tape i).memory i.args/\X (w.forCall tape i).memory i.args)/\sizedMet enc C.prog fn (OpenSpec.ofChange s) apart (w.forCall tape i).memory i.args)/\a.holds C.prog (lone (Frame.enter C.prog f i.args .normal) [] (w.forCall tape i)))
  (contract: ∀(W:World) (base:Nat) (args:Array Value) (ds gs:List (DataW H)) (before:List MemPlace),(∀(j:Nat) t v,fn.params[j]? =some t->args[j]? =some v->Value.okWide C.prog W .any base t v)->DataW.Whole enc C.prog fn.params.toList s.vars apart W args.toList ds gs before->
   X W args->W.ShapedOpen C.prog->Calls C.prog f args W fun e W'=> ∃v,e= .returned v/\s.post enc C.prog fn apart fresh handsOn again W args v W'):
  ReturnsInHanded a C os f .any (fun w args=>(s.pre enc C.prog fn conds apart w args/\X w args)/\sizedMet enc C.prog fn (OpenSpec.ofChange s) apart w args) (s.post enc C.prog fn apart fresh handsOn again):=by
 refine returnsInHanded_of_calls own started noInit witness ?_;intro w tape i _ hsh _ hok hpre _;obtain⟨_,_,_,fn',hfn',_,_,_,_,hval⟩:=hok;obtain rfl:fn'=fn:=Option.some.inj (hfn'.symm.trans hfn);obtain⟨⟨⟨ds,gs,before,hw,_⟩,hx⟩,_⟩:=hpre;refine(contract (w.forCall tape i) w.heap.size i.args ds gs before hval (DataW.Whole.of_heap (w':=w.forCall tape i) (by rfl) hw) (hX _ _ _ (by rfl) hx) hsh).mono fun e W' hh=> ?_;obtain⟨v,rfl,hp⟩:=hh;exact ChangeSpec.post_blind hp
end Sg
