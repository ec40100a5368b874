import Derived.Test.YtklofnlffikpgaaGreatSlLh
import Derived.Test.YtklofnlffikpgaaGreatSlPz1
import Derived.Test.YtklofnlffikpgaaGreatSlPz2
import Derived.Test.YtklofnlffikpgaaGreatSlPz3
import Derived.Test.YtklofnlffikpgaaGreatSlPz4
set_option linter.all false
namespace Sg
open Go
theorem oc: ∀k,k<32->BM k=true
 |0,_=>oc0
 |1,_=>oc1
 |2,_=>oc2
 |3,_=>oc3
 |4,_=>oc4
 |5,_=>oc5
 |6,_=>oc6
 |7,_=>oc7
 |8,_=>oc8
 |9,_=>oc9
 |10,_=>afK
 |11,_=>ae0
 |12,_=>ae4
 |13,_=>afL
 |14,_=>ae6
 |15,_=>afG
 |16,_=>afk
 |17,_=>afA
 |18,_=>ae2
 |19,_=>afF
 |20,_=>afj
 |21,_=>afv
 |22,_=>ae8
 |23,_=>afp
 |24,_=>afl
 |25,_=>afa
 |26,_=>afg
 |27,_=>afh
 |28,_=>afC
 |29,_=>afi
 |30,_=>ae7
 |31,_=>afs
 |n+32,h=>by omega
theorem Tj {n:Nat} (hn:n<4096) (h:n % 4=3):okC (n:Int)=true:=by
 have h1:=oc (n / 128) (by omega)
 unfold BM at h1
 rw [List.all_eq_true]at h1
 have h2:=h1 (n / 4 % 32) (c7.2 (by omega))
 rwa [show 4*(32*(n / 128)+n / 4 % 32)+3=n by omega]at h2
theorem UI {n:Nat} (hn:n<4096) (h:n % 4=3):iI (Ci (Int.fdiv (n:Int) (2 ^ min 11 (IntKind.bits .i64)))) (QT (n:Int) qa) (IntKind.wrap .i64 ((Int.tmod (n:Int) 3) - 1)) []=some true:=by
 have h1:=Tj hn h
 unfold okC at h1
 unfold iI
 rw [tQ]
 split at h1
 ·rename_i h2;exact h2
 ·cases h1
theorem JS (y:Int):Small (Ci y):=⟨by simp [Ci],by simp [Ci],by simp [Ci],fun x hx=>by
 simp only [Ci,ef,List.not_mem_nil,or_false]at hx
 rcases hx with rfl|rfl|rfl<;>decide⟩
theorem VZ (n:Int):Ev (QT n qa):=⟨by simp [QT,qa],by simp [QT,qa],by simp [QT,qa],by simp [QT,qa],by simp [QT,qa],by simp [QT,qa],by simp [QT,qa]⟩
theorem RY {c:Bool} {o:Option Bool} {d:Bool × Bool} (hd:d.1=d.2) (h:c=true->o=some true): ∃r,(bif gB [(c,true),d]then o else some default)=some r/\(c=true->r=true):=by
 cases c with
 |true=>
  obtain⟨x,y⟩:=d
  simp only at hd
  subst hd
  exact⟨true,by rw [h rfl];cases x<;>rfl,fun _=>rfl⟩
 |false=>exact⟨default,by cases d;rfl,fun h=>by cases h⟩
theorem Vf:ay fK FUEL 0=some (.brk ()):=by
 refine aU (body:=fK) (fun i=>(i:Int)) 4096 _ (fuel_lt (by omega)) (fun i hi=> ?_) (by unfold fK;rfl)
 unfold fK
 rw [show decide ((i:Int)<4096)=true from bx (by omega),bt,WT,bs]
 have t4:Int.tmod (i:Int) 4=((i % 4:Nat):Int):=rfl
 have t3:Int.tmod (i:Int) 3=((i % 3:Nat):Int):=rfl
 rw [au (by decide),au (by simp [qa]),au (by simp [qa]),au (by simp [qa]),au (by simp [qa]),au (by simp [qa]),au (by simp [qa]),au (by simp [qa]),au (by simp [qa]),au (by simp [qa]),au (by simp [qa]),au (by simp [qa]),au (by simp [qa]),au (by decide)]
 rw [Eh _ _ _ _ (JS _) (VZ _),bs]
 obtain⟨r2,e2,g2⟩:=RY (c:=decide (Int.tmod (i:Int) 4=3)) (d:=(!true,false)) rfl (o:=iI (Ci (Int.fdiv (i:Int) (2 ^ min 11 (IntKind.bits .i64)))) (QT (i:Int) qa) (IntKind.wrap .i64 ((Int.tmod (i:Int) 3) - 1)) []) (fun h=>UI hi (by rw [t4]at h;have:=of_decide_eq_true h;omega))
 rw [e2,bs]
 have c2:(bif (!true)then true else(bif (decide (Int.tmod (i:Int) 4=3))then(!r2)else false))=false:=by
  cases h:decide (Int.tmod (i:Int) 4=3)with
  |true=>rw [g2 h];rfl
  |false=>rfl
 rw [c2]
 obtain⟨r3,e3,g3⟩:=RY (c:=decide (Int.tmod (i:Int) 16=5)) (d:=(false,false)) rfl (o:=ja (Ci (Int.fdiv (i:Int) (2 ^ min 11 (IntKind.bits .i64)))) (QT (i:Int) qa) ([(⟨3,1,2⟩:Transfer),(⟨2,0,2⟩:Transfer),(⟨2,-1,0⟩:Transfer),(⟨3,2,1⟩:Transfer)].drop ((Int.tmod (i:Int) 4).toNat)) (decide ((Int.tmod (i:Int) 32)=5))) (fun h=>Ht _ _ _ _ (JS _))
 rw [e3,bs]
 have c3:(bif false then true else(bif (decide (Int.tmod (i:Int) 16=5))then(!r3)else false))=false:=by
  cases h:decide (Int.tmod (i:Int) 16=5)with
  |true=>rw [g3 h];rfl
  |false=>rfl
 rw [c3,au,bu,wr (by omega)]
 ·rfl
 ·rw [t4]
  simp only [b_,kY,c6,List.length_nil]
  omega
def wS:Nat->List Transfer
 |0=>[]
 |n+1=>wS n++[⟨Int.tmod (n:Int) 4, -1,Int.tmod (n:Int) 3⟩]
theorem Gj: ∀n,(wS n).length=n
 |0=>rfl
 |n+1=>by unfold wS;rw [b_,Gj n];rfl
theorem Xv:ay fM FUEL ([],0)=some (.brk (wS 16)):=by
 refine aU (body:=fM) (fun i=>(wS i,(i:Int))) 16 _ (fuel_lt (by omega)) (fun i hi=> ?_) (by unfold fM;rfl)
 unfold fM
 simp only
 rw [show decide ((i:Int)<16)=true from bx (by omega),bt,au (by rw [Gj];simp only [c6,List.length_nil];omega),wr (by omega)]
 rfl
theorem many1:(bG (Ci 1) qa (wS 16)).map (fun r=>r.2.2)=some 0:=by kernel_rfl
theorem aeg:(bG (Ci 1) qa (wS 16++[at' (wS 16) 0])).map (fun r=>r.2.2)=some 1:=by kernel_rfl
theorem GN:lT=some true:=by
 unfold lT
 rw [Vf,bs]
 change Option.bind (iA 1) _=_
 rw [WT,bs,Xv,bs]
 dsimp only
 obtain⟨r1,e1,g1⟩: ∃r,bG (Ci 1) qa (wS 16)=some r/\r.2.2=0:=by
  have h:=many1
  cases e:bG (Ci 1) qa (wS 16)with
  |none=>rw [e]at h;cases h
  |some r=>rw [e]at h;exact⟨r,rfl,Option.some.inj h⟩
 obtain⟨r2,e2,g2⟩: ∃r,bG (Ci 1) qa (wS 16++[at' (wS 16) 0])=some r/\r.2.2=1:=by
  have h:=aeg
  cases e:bG (Ci 1) qa (wS 16++[at' (wS 16) 0])with
  |none=>rw [e]at h;cases h
  |some r=>rw [e]at h;exact⟨r,rfl,Option.some.inj h⟩
 rw [e1,bs,e2,bs,g1,g2,au (by rw [Gj];simp only [c6,List.length_nil];omega),tQ]
 rfl
end Sg
