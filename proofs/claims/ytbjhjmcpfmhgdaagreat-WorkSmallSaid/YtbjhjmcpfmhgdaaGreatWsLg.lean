import Derived.Test.YtbjhjmcpfmhgdaaGreatWsLc
import Derived.Test.YtbjhjmcpfmhgdaaGreatWsLf
import Derived.Test.YtbjhjmcpfmhgdaaGreatWsGm
set_option linter.all false
namespace Sg
open Go
theorem wr {x:Int} (h: -9223372036854775808≤x∧x≤9223372036854775807):IntKind.wrap .i64 x=x:=by rw [IntKind.wrap_i64];omega
theorem EC {σ ρ:Type} {body:σ→Option (aI σ ρ)}: ∀{n m:Nat} {s:σ} {r:ρ},aD body n s=some r→n≤m→aD body m s=some r
 |0,_,_,_,h,_=>by cases h
 |n+1,0,_,_,_,hm=>by omega
 |n+1,m+1,s,r,h,hm=>by
  rw [gu]at h ⊢
  revert h
  cases body s with
  |none=>exact id
  |some f=>
   cases f with
   |next s'=>exact fun h=>EC h (by omega)
   |done r=>exact id
theorem JV {σ ρ:Type} {body:σ→Option (aI σ ρ)} (S:Nat→σ) (k:Nat) (hs: ∀i,i<k→body (S i)=some (.next (S (i+1)))): ∀(m:Nat),aD body (k+m) (S 0)=aD body m (S k):=by
 induction k with
 |zero=>intro m;simp
 |succ k ih=>
  intro m
  have:=ih (fun i hi=>hs i (by omega)) (m+1)
  rw [show k+1+m=k+(m+1) by omega,this,gu,hs k (by omega)]
theorem NW {σ ρ:Type} {body:σ→Option (aI σ ρ)} {N:Nat} (S:Nat→σ) (k:Nat) (r:ρ) (hk:k<N) (hs: ∀i,i<k→body (S i)=some (.next (S (i+1)))) (hd:body (S k)=some (.done r)):aD body N (S 0)=some r:=by
 have h:=JV S k hs 1
 have h1:aD body 1 (S k)=some r:=by rw [gu,hd]
 exact EC (h.trans h1) (by omega)
theorem fuel_lt {k:Nat} (h:k≤9223372036854775807):k<FUEL:=by unfold FUEL;omega
section
variable {α:Type} [Inhabited α]
end
section
variable {α:Type}
end
end Sg

namespace Sg
open Go Go.Sort Go.Proofs
def MU (x y:List Int):Bool:= !decide (cmpL y x<0)
def Ow (x:List Int):List (List Int)→List (List Int)
 |[]=>[x]
 |y::l=>bif MU x y then x::y::l else y::Ow x l
def QA:List (List Int)→List (List Int)
 |[]=>[]
 |x::l=>Ow x (QA l)
theorem I5 (x y:List Int):MU x y=true↔ltOf cmpL y x=false:=by
 show(!(ltOf cmpL y x))=true↔_
 cases ltOf cmpL y x<;>decide
theorem HY (x y z:List Int) (h1:MU x y=true) (h2:MU y z=true):MU x z=true:=by
 rw [I5]at*
 exact Ac.ntrans z y x h2 h1
theorem G5 (x y:List Int):(MU x y||MU y x)=true:=by
 rw [Bool.or_eq_true,I5,I5]
 cases h:ltOf cmpL y x with
 |false=>exact .inl rfl
 |true=>
  right
  cases h2:ltOf cmpL x y with
  |false=>rfl
  |true=>
   have:=Ac.trans x y x h2 h
   rw [Ac.irrefl]at this;cases this
theorem BU (x:List Int): ∀l,(Ow x l).Perm (x::l)
 |[]=> .refl _
 |y::l=>by
  unfold Ow
  cases MU x y with
  |true=>exact .refl _
  |false=>exact((BU x l).cons y).trans (.swap x y l)
theorem Hw: ∀l,(QA l).Perm l
 |[]=> .refl _
 |x::l=>(BU x _).trans ((Hw l).cons x)
theorem M8 (x:List Int): ∀l,l.Pairwise (fun a b=>MU a b=true)→(Ow x l).Pairwise (fun a b=>MU a b=true)
 |[],_=>List.pairwise_singleton _ _
 |y::l,h=>by
  unfold Ow
  rw [List.pairwise_cons]at h
  cases hx:MU x y with
  |true=>
   rw [cond_true,List.pairwise_cons,List.pairwise_cons]
   refine⟨fun z hz=> ?_,h.1,h.2⟩
   rcases List.mem_cons.1 hz with rfl|hz
   ·exact hx
   ·exact HY x y z hx (h.1 z hz)
  |false=>
   rw [cond_false,List.pairwise_cons]
   refine⟨fun z hz=> ?_,M8 x l h.2⟩
   have hyx:MU y x=true:=by
    have:=G5 x y
    rw [hx,Bool.false_or]at this;exact this
   rcases List.mem_cons.1 ((BU x l).mem_iff.1 hz)with rfl|hz
   ·exact hyx
   ·exact h.1 z hz
theorem Nf: ∀l,(QA l).Pairwise (fun a b=>MU a b=true)
 |[]=> .nil
 |x::l=>M8 x _ (Nf l)
theorem TH (l:List (List Int)):(l.mergeSort fun x y=> !decide (cmpL y x<0))=QA l:=by
 refine List.Perm.eq_of_pairwise (le:=fun a b=>MU a b=true) (fun a b _ _ h1 h2=> ?_) ?_ (Nf l) ((List.mergeSort_perm l _).trans (Hw l).symm)
 ·rw [I5]at h1 h2
  exact JM a b h2 h1
 ·exact List.pairwise_mergeSort HY G5 l
def MV (s:List (List Int)):Option (List (List Int)):=bif decide (s.length<4611686018427387904) && (decide s.Nodup && s.all fun x=>decide (x.length≤1000000))then some (QA s)else none
theorem Rk:dI=MV:=by
 funext s
 unfold dI MV
 rw [TH]
def WJ (y:aj):Option ((List (List Int)) × Int):=nk MV y
theorem II:fV=WJ:=by
 funext y
 show nk dI y=nk MV y
 rw [Rk]
def Ku:aj:=(bX.bind eD).getD default
def exR:aj:=⟨Ku.plant,Ku.state,Ku.transfers,Ku.jobs,Ku.people,true⟩
theorem VR:(bX.bind eD).isSome=true:=by kernel_rfl
theorem XJ: ∃a,bX=some a∧eD a=some Ku:=by
 have h:=VR
 cases ha:bX with
 |none=>rw [ha]at h;cases h
 |some a=>
  refine⟨a,rfl, ?_⟩
  cases hb:eD a with
  |none=>rw [ha]at h;simp only [Option.bind_some,hb]at h;cases h
  |some b=>
   have:Ku=b:=by unfold Ku;rw [ha,Option.bind_some,hb];rfl
   rw [this]
theorem Vf:fV Ku=some ([[0,1]],0):=by
 rw [II];kernel_rfl
theorem TG:fV exR=some ([[0],[1]],0):=by
 rw [II];kernel_rfl
theorem Tp:l8 Ku [0,1]=some (false,0):=by kernel_rfl
theorem RJ:jF Ku=some ([0,2],0):=by kernel_rfl
theorem Vb:qB Ku [0,2]=some (5,0):=by kernel_rfl
theorem Lv:kX=some true:=by
 obtain⟨a,ha,hb⟩:=XJ
 have w:fV (⟨Ku.plant,Ku.state,Ku.transfers,Ku.jobs,Ku.people,true⟩:aj)=some ([[0],[1]],0):=TG
 unfold kX
 rw [ha,Option.bind_some,hb,Option.bind_some,Tp,Option.bind_some,RJ,Option.bind_some,Vf,Option.bind_some,Vb,Option.bind_some,w,Option.bind_some,hb]
 refine Eq.trans ?_ (rfl:some true=some true)
 kernel_rfl
end Sg
