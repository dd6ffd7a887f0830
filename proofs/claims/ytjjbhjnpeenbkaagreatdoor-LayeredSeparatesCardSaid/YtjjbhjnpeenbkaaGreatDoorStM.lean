/- The best order of one layer: the program's Layer. -/
import Derived.Test.YtjjbhjnpeenbkaaGreatDoorStA
import Derived.Test.YtjjbhjnpeenbkaaGreatDoorG
import Derived.Test.YtjjbhjnpeenbkaaGreatDoorPSBridge
set_option linter.unusedSimpArgs false
set_option linter.unusedVariables false
set_option maxHeartbeats 16000000
namespace Go.Proofs.YtjjbhjnpeenbkaaGreatDoor
open Go Go.PS Go.Proofs
open Go.Bd (sm ix ZdS ZeA ZcQ Zaq Part Zbw)
set_option maxRecDepth 100000
attribute [local irreducible] Zad wpG Zaa Zag
theorem ZqG (a:Lv)(i f:Int)(u v:Nat):Zak (ZaU a i f) u v<=((a.2.2.1.length*a.2.2.1.length:Nat):Int):=by
 have hz:Zak [] u v=0:=by simp[Zak,Zaw,at0]
 rw[ZaU];split
 ·by_cases hu:u<(Zbm a.2.1 a.2.2.1 i f (ZcM a i)).length
  ·by_cases hv:v<(Zbm a.2.1 a.2.2.1 i f (ZcM a i)).length
   ·rw[Zna hu hv,Zd2];split
    ·omega
    ·have hl:∀k,(Zaw (Zbm a.2.1 a.2.2.1 i f (ZcM a i)) k).length<=a.2.2.1.length:=λ k=>by
      by_cases hk:k<ZcM a i
      ·rw[Zbm,Zaw,uI,yR hk];exact ZiS ..
      ·rw[Zi2 (by simp[Zbm];omega)];exact uH _
     have:=gP (ZmV _ _) (kZ (hl u) (hl v));omega
   ·have:Zak (Zc8 (Zbm a.2.1 a.2.2.1 i f (ZcM a i))) u v=0:=by
     rw[Zak,Zc8,Zaw,uI,yR hu];simp only[qB,yN];rw[at0,uM,uN (by simp;omega)];rfl
    omega
  ·have:Zak (Zc8 (Zbm a.2.1 a.2.2.1 i f (ZcM a i))) u v=0:=by
    rw[Zak,Zi2 (by rw[Zc8];simp;omega)];simp[at0]
   omega
 ·rw[hz];omega
theorem ZEx {a:Lv}{old y:List Int}{w:Int}{i:Nat}(hw:0<=w/\w<=1000)(har:a.2.2.1.length<=700)(hy:y.length<=8):okM (stM a old y w i)=true:=by
 refine ZEv ⟨by rw[Zmi];omega,λ p hp=>?_,λ p hp x hx=>?_⟩ (by rw[Zmi];exact hy)
 ·rw[Zmi];obtain⟨u,_,rfl⟩:=uP.1 hp;exact ZeG _ _
 ·obtain⟨u,_,rfl⟩:=uP.1 hp;obtain⟨v,_,rfl⟩:=uP.1 hx;have hb:a.2.2.1.length*a.2.2.1.length<=490000:=gP (kZ har har) (by decide);have h1:=ZqG a i ((i:Int)-1) u v;have h2:=ZqG a i ((i:Int)+1) u v;have h3:=(ZkV a old y hw i 2 u v).1;have h4:=(ZkV a old y hw i 0 u v).2;have e:ZdI a old y w i 2 u v=ZdI a old y w i 0 u v+Zak (ZaU a i ((i:Int)-1)) u v+Zak (ZaU a i ((i:Int)+1)) u v:=rfl;omega
theorem Zqk (m:List (List Int)):Part m.length 0 (Zc3 m).1/\(Zc3 m).2=Zaq (Zak m) (Zc3 m).1:=by
 obtain⟨h1,_,h3⟩:=Go.Bd.best_of (Zak m) m.length [] (Zkp _) _ (ZmX m);exact⟨h1,h3⟩
def ZwS (a:Lv)(old:List (List Int))(w:Int)(i:Nat):Lv:=
 if(Zc3 (stM a (Zaw old i) (Zaw a.2.1 i) w i)).2<Zaq (Zak (stM a (Zaw old i) (Zaw a.2.1 i) w i)) (List.range (Zaw a.2.1 i).length)then Zcc a i (ZaO (Zaw a.2.1 i) (Zc3 (stM a (Zaw old i) (Zaw a.2.1 i) w i)).1)else a
theorem ZxA (l:List Int)(hn:l.length<=1000000):Zag Tryz.prog 214 [.d (Zab l)] [(2000, .dead)] (.ref 2000 1 0 l.length l.length) [(2000, .row 1 (l.map D.int))]:=by
 rcases gZ (l=[])with rfl|hl
 ·refine kM Tryz.func214 ?_;intro B X w0;refine Zdn ?_;refine kw1 kO kc0 kc0 ?_;refine Zku 4 rfl ?_;intro b;cases b
  ·repeat' first|refine ZbQ rfl ?_|refine Za7 ?_|refine ZgF (Nat.beq 5) ZcT ?_|(refine ZbY rfl rfl (λ hc=>?_) (λ hc=>?_)<;>try simp only[hcL]at hc)|(refine ZbW _ rfl rfl (λ hc=>?_) (λ hc=>?_)<;>(try simp only[hcL]at hc)<;>try omega)|simp(disch:=omega) only[go_sem,simprocAttr,roomy]|apply And.intro|omega|decide+kernel
   refine⟨_,Zby.1 (kN (L:=[(2, .ref 2000 1 0 0 0)]) (M:=[(2000, .row 1 [])]) kc0 [(2000,7)]),?_⟩;exact⟨rfl,uK.2 ⟨rfl,uW _⟩⟩
  ·refine kw1 kO kc0 kc0 ?_;refine⟨_,Ent.trans (Zcy 2 7 1 rfl rfl) (Zby.1 (eL [(2000,7)] [(2, .ref 2000 1 0 0 0)] [(2000, .row 1 [])] (by constructor<;>(repeat' first|exact uW _|refine uK.2 ⟨rfl,?_⟩)))),?_⟩;exact⟨rfl,uK.2 ⟨rfl,uW _⟩⟩
 ·have he:(l.map D.int).isEmpty=false:=by simpa using hl
  have hpos:0<l.length:=Ae.2 hl;refine kM Tryz.func214 ?_;intro B X w0;refine Zdn ?_
  repeat' first|refine ZbQ rfl ?_|refine Za7 ?_|refine ZgF (Nat.beq 5) ZcT ?_|(refine ZbY rfl rfl (λ hc=>?_) (λ hc=>?_)<;>try simp only[hcL]at hc)|(refine ZbW _ rfl rfl (λ hc=>?_) (λ hc=>?_)<;>(try simp only[hcL]at hc)<;>try omega)|simp(disch:=omega) only[go_sem,simprocAttr,he,roomy,Zal]|exact Zhg l|apply And.intro|omega|decide+kernel
  refine⟨_,Zby.1 (kN (L:=[(2, .ref 2000 1 0 l.length l.length)]) (M:=[(2000, .row 1 (l.map D.int))]) kc0 [(2000,7)]),?_⟩;exact⟨rfl,uK.2 ⟨rfl,uW _⟩⟩
theorem ZoW (l m:List Int):Zaa Tryz.prog 31 [Zab l,Zab m] (.bool (decide (l=m))):=by
 refine kE Tryz.func31 ?_;intro hat B X w0;have hl:=ZaJ 0 hat rfl;have hm:=ZaJ 1 hat rfl;rw[uC]at hl hm;by_cases hlm:l.length=m.length
 ·refine kw1 kO kc0 kc0 ?_;refine Zaf (λ(k:Nat)=>k<=l.length/\l.take k=m.take k) (λ k=>[(0, .d (Zab l)),(1, .d (Zab m)),(5, .int k)]) (λ k=>[]) (λ k=>l.length-k) 0 ?_ ?_ ?_
  ·exact⟨uH _,rfl⟩
  ·exact kN kc0 []
  ·rintro k ⟨hk,hinv⟩;rcases uE k l.length with hlt|hge
   ·obtain⟨p,hp⟩:=Zac hlt;obtain⟨q,hq⟩:=Zac (hlm▸hlt);refine kw kO (kc2 hp hq) kc0 ?_
    repeat' first|exact True.intro|refine Bn.mk ?_ ?_|intro hc
    ·refine Zah ?_;rw[uV (ZgO hp hq hc)]
    ·refine⟨k+1,?_,eL [] _ _ (by refine⟨?_,?_⟩<;>(repeat' first|exact fmn|refine fmc ⟨(by first|rfl|(simp(disch:=omega) only[go_sem,simprocAttr,inL];first|done|omega|(congr 1;done))),?_⟩);done),?_⟩
     ·exact⟨by omega,by rw[ZaA hp,ZaA hq,hinv,hc]⟩
     ·omega
   ·refine kw1 kO kc0 kc0 ?_;refine Zah ?_;rw[uD hge,uD (by omega)]at hinv;simp[hinv]
 ·refine kw1 kO kc0 kc0 ?_;refine Zah ?_;rw[uV];rintro rfl;exact hlm rfl
theorem sum_nil {a:Lv}(h:Zar a=true):ZgY a [] 7=Zbc a:=by
 have hz:∀k,ZlB a [] k=0:=by
  intro k
  induction k with
  |zero=>rfl
  |succ k ih=>
   have s1:ZlB a [] (k+1)=ZlB a [] k+(ZdS (Zaw [] k) (Zaw a.2.1 k):Int):=rfl;have s2:∀(l:List Int) i,ZcQ [] l i=[]:=by
    intro l i
    induction i with
    |zero=>rfl
    |succ i ihi=>rw[ZcQ];split<;>simp[ihi]
   have s3:Zaw [] k=[]:=Zi2 (uH _);rw[s1,ih,s3,ZdS,s2];rfl
 rw[ZgY,if_pos (by rw[okW,h];decide),hz];omega
end Go.Proofs.YtjjbhjnpeenbkaaGreatDoor
namespace Go.Proofs.YtjjbhjnpeenbkaaGreatDoor
open Go Go.PS Go.Proofs
open Go.Bd (ZcQ)
set_option maxRecDepth 100000
attribute [local irreducible] Zad wpG Zaa Zag
end Go.Proofs.YtjjbhjnpeenbkaaGreatDoor
namespace Go.Proofs.YtjjbhjnpeenbkaaGreatDoor
open Go Go.PS Go.Proofs
open Go.Bd (ZdS ZcQ Zaq Part)
theorem ZoP {a:Lv}(hv:Zar a=true){i:Nat}{y z:List Int}(hy:a.2.1[i]? =some y)(hz:z.Perm y):Zfe a i z=(Zcc a i z,0):=by
 have hil:=(uB.1 hy).1;rw[Zfe,if_neg (by rw[hv];decide),if_neg (by omega),uM,hy,yN,if_neg (by rw[ZuO hz];simp)];rfl
theorem ZBz {a:Lv}(hv:Zar a=true){i:Nat}{y z:List Int}(hy:a.2.1[i]? =some y)(hz:z.Perm y):Zar (Zcc a i z)=true:=by
 have h:=ZoP hv hy hz;have:=ZCJ (a:=a) (i:=i) (o:=z) (by rw[h]);rw[h]at this;exact this
structure Kin (a b:Lv):Prop where
 ok:Zar b=true
 wd:wide b
 len:b.2.1.length=a.2.1.length
 arcs:b.2.2.1=a.2.2.1
 perm:∀k,(Zaw b.2.1 k).Perm (Zaw a.2.1 k)
theorem Kin.refl {a:Lv}(hv:Zar a=true)(hw:wide a):Kin a a:=⟨hv,hw,rfl,rfl,λ _=>List.Perm.refl _⟩
theorem Kin.put {a b:Lv}(h:Kin a b){i:Nat}{y z:List Int}(hy:b.2.1[i]? =some y)(hz:z.Perm y):Kin a (Zcc b i z):=by
 have hil:=(uB.1 hy).1;have hyl:y.length<=512:=by have:=Zsd h.ok i;rw[ZdV hy]at this;exact this
 refine⟨ZBz h.ok hy hz,?_,?_,h.arcs,λ k=>?_⟩
 ·have:=ZCK (a:=b) (i:=i) (o:=z) h.wd (by have:=hz.length_eq;omega);rw[ZoP h.ok hy hz]at this;exact this
 ·rw[<-h.len];exact yP
 ·have hl:(Zcc b i z).2.1=b.2.1.set i z:=rfl;by_cases c:k=i
  ·subst c;have hs:Zaw (b.2.1.set k z) k=z:=by rw[Zaw,qL,if_pos rfl,if_pos hil];rfl
   rw[hl,hs];have:=h.perm k;rw[ZdV hy]at this;exact hz.trans this
  ·have:Zaw (b.2.1.set i z) k=Zaw b.2.1 k:=by rw[Zaw,Zaw,qL,if_neg (λ h=>c h.symm)]
   rw[hl,this];exact h.perm k
theorem Kin.lay {a b:Lv}(h:Kin a b){k:Nat}(hk:k<a.2.1.length):b.2.1[k]? =some (Zaw b.2.1 k):=by
 obtain⟨y,hy⟩:=Zac (l:=b.2.1) (k:=k) (by have:=h.len;omega);rw[ZdV hy];exact hy
def Zcq (b:Lv)(old:List (List Int))(w:Int):Nat->Lv
 |0=>b
 |k+1=>if 8<(Zaw (Zcq b old w k).2.1 k).length then Zcq b old w k else ZwS (Zcq b old w k) old w k
end Go.Proofs.YtjjbhjnpeenbkaaGreatDoor
