/- The network of levels has balanced ranks. -/
import Derived.Test.YtjjbhjnpeenbkaaGreatDoorAlA
import Derived.Test.YtjjbhjnpeenbkaaGreatDoorSxQ
set_option linter.unusedSimpArgs false
set_option linter.unusedVariables false
set_option maxHeartbeats 16000000
namespace Go.Proofs.YtjjbhjnpeenbkaaGreatDoor.Al
open Go Go.PS Go.Proofs
open Sx (Bd bdD Zbx Net nD nOk BdsOk bdsOk_of PotB zeros Best SolveOk solve_best best_bd best_pot best_le midF feasF costF costB costAt Zar gap feas_pot)
set_option maxRecDepth 100000
attribute [local irreducible] Zad wpG Zaa Zah
variable {a:Lv}{ws:List Int}{sep:Int}
abbrev ZnF (a:Lv):Nat:=tot a.2.1+a.2.2.1.length
abbrev Zh0 (a:Lv)(ws:List Int)(sep:Int):List Bd:=Zgh a a.2.2.1.length++Zbr ws sep a.2.1 a.2.1.length
theorem Zzc {k:Nat}{b:Bd}(h:b∈Zgh a k):∃i x,i<k/\a.2.2.1[i]? =some x/\(b=(((tot a.2.1+i:Nat):Int),x.1,0,ZcX a.1 x)\/b=(((tot a.2.1+i:Nat):Int),x.2,0,ZcX a.1 x)):=by
 obtain⟨i,hi,hb⟩:=ZhY.1 h;rw[Zmo]at hb;split at hb
 ·rename_i x hx;rw[Zir]at hb;simp only[yD,gP,Cc]at hb;exact⟨i,x,hi,hx,hb⟩
 ·simp at hb
theorem Zq5 {l:List Int}(hn:l.Nodup){k:Nat}{v:Int}(h:l[k]? =some v):l.idxOf v=k:=by
 obtain⟨h1,h2⟩:=uB.1 h;have h3:=List.idxOf_lt_length_iff.2 (uA h);have h4:l[l.idxOf v]=v:=zT h3;rcases Ap (l.idxOf v) k with c|c|c
 ·exact absurd (h4.trans h2.symm) (gM.1 hn _ _ h3 h1 c)
 ·exact c
 ·exact absurd (h2.trans h4.symm) (gM.1 hn _ _ h1 h3 c)
theorem ZiE {ls:List (List Int)}{i:Nat}{x:List Int}(h:ls[i]? =some x){j:Nat}{v:Int}(hj:x[j]? =some v):ls.flatten[(ls.take i).flatten.length+j]? =some v:=by
 obtain⟨h1,h2⟩:=uB.1 h;have e:ls=ls.take i++x::ls.drop (i+1):=by rw[<-h2,<-qS h1,gI]
 have hjl:=(uB.1 hj).1;have e2:ls.flatten=(ls.take i).flatten++(x++(ls.drop (i+1)).flatten):=by
  conv=>lhs;rw[e]
  simp
 rw[e2,qG (by omega),Bt,qW hjl,hj]
theorem Zzb {k:Nat}{b:Bd}(h:b∈Zbr ws sep a.2.1 k):∃(i:Nat) (x:List Int) (j:Nat) (u v:Int),a.2.1[i]? =some x/\x[j]? =some u/\x[j+1]? =some v/\b=(u,v,apF ws sep u v,0):=by
 obtain⟨i,hi,hb⟩:=ZhY.1 h;rw[prL]at hb;split at hb
 ·rename_i x hx;obtain⟨j,hj,rfl⟩:=uP.1 hb;have hj:=yA.1 hj;exact⟨i,x,j,_,_,hx,at0_at (by omega),at0_at (by omega),rfl⟩
 ·simp at hb
theorem Zh1 (h:VA a ws sep)(hal:a.2.2.1.length<=700):nOk ((ZnF a:Int),Zh0 a ws sep)=true:=by
 have h1:=h.tt;have h2:=Zji ws sep a.2.1 a.2.1.length (uI _);rw[yH]at h2;have h3:=ZkM a a.2.2.1.length (uI _);simp only[nOk,uM,uF,yI,qA,uH];have hN:ZnF a=tot a.2.1+a.2.2.1.length:=rfl;refine⟨⟨by omega,by omega,by omega⟩,λ b hb=>?_⟩;rw[yO]at hb;simp only[Sx.bdIn,yI,yZ,Bv];rcases hb with hb|hb
 ·obtain⟨i,x,hi,hx,hb⟩:=Zzc hb;have hm:=h.arcs x (uA hx);have hw:=ZoX a.1 x;rcases hb with rfl|rfl<;>(dsimp only;omega)
 ·obtain⟨i,x,j,u,v,hx,hu,hv,rfl⟩:=Zzb hb;have hm:=uA hx;have b1:=h.vert x hm _ (uA hu);have b2:=h.vert x hm _ (uA hv);have b3:=Zjj h u v;have hne:u≠v:=by
   rintro rfl;have e1:=Zq5 h.nodup (ZiE hx hu);have e2:=Zq5 h.nodup (ZiE hx hv);omega
  dsimp only;omega
structure Bal (a:Lv)(ws:List Int)(sep:Int)(M:List Int):Prop where
 len:M.length=ZnF a
 bd:∀v:Nat,v<M.length->0<=at0 M v/\at0 M v<=34359738368
 pot:PotB (Zh0 a ws sep) (zeros (Zh0 a ws sep)) (λ v=>at0 M v)
 calls:Zah Tryz.prog 58 [.d (nD (Zf3 a ws sep))] [(2000, .dead)] (.tup [.ref 2000 1 0 M.length M.length, .int 0]) [(2000, .row 1 (M.map D.int))]
 least:∀x:List Int,PotB (Zh0 a ws sep) (zeros (Zh0 a ws sep)) (λ v=>at0 x v)->costB (Zh0 a ws sep) M<=costB (Zh0 a ws sep) x
end Go.Proofs.YtjjbhjnpeenbkaaGreatDoor.Al
namespace Go.Proofs.YtjjbhjnpeenbkaaGreatDoor.Al
open Go Go.PS Go.Proofs
open Sx (Bd nOk BdsOk bdsOk_of PotB zeros Best best_bd best_pot costB costAt Zar ZbV ZjN ZjM midF)
set_option maxRecDepth 100000
variable {a:Lv}{ws:List Int}{sep:Int}
end Go.Proofs.YtjjbhjnpeenbkaaGreatDoor.Al
namespace Go.Proofs.YtjjbhjnpeenbkaaGreatDoor.Al
open Go Go.PS Go.Proofs
open Sx (Bd bdD Zbx Net nD)
set_option maxRecDepth 100000
attribute [local irreducible] Zad wpG Zaa Zah
abbrev lvA :Lv:=(3,[[0],[1,2]],[(0,1),(0,2)],[[0,1],[0,2]])
theorem ZEj :wide lvA:=by
 intro y hy;simp only[lvA,yD,gP,Cc]at hy;rcases hy with rfl|rfl<;>decide
theorem vA :Zaw lvA=true:=by
 simp only[Zaw,ZcT,lvA,uS,yE,<-Zra]
 decide+kernel
end Go.Proofs.YtjjbhjnpeenbkaaGreatDoor.Al
