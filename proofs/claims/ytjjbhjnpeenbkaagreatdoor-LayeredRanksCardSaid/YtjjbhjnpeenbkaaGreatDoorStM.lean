/- The best order of one layer: the program's Layer. -/
import Derived.Test.YtjjbhjnpeenbkaaGreatDoorStA
import Derived.Test.YtjjbhjnpeenbkaaGreatDoorG
import Derived.Test.YtjjbhjnpeenbkaaGreatDoorPSBridge
set_option linter.unusedSimpArgs false
set_option linter.unusedVariables false
set_option maxHeartbeats 16000000
namespace Go.Proofs.YtjjbhjnpeenbkaaGreatDoor
open Go Go.PS Go.Proofs
open Go.Bd (sm ix ZdL Zer ZcO Zat Part ZbC)
set_option maxRecDepth 100000
attribute [local irreducible] Zad wpG Zaa Zah
theorem ZpZ (a:Lv)(i f:Int)(u v:Nat):Zak (ZaT a i f) u v<=((a.2.2.1.length*a.2.2.1.length:Nat):Int):=by
 have hz:Zak [] u v=0:=by simp[Zak,Zay,at0]
 rw[ZaT];split
 ·by_cases hu:u<(Zbt a.2.1 a.2.2.1 i f (ZcI a i)).length
  ·by_cases hv:v<(Zbt a.2.1 a.2.2.1 i f (ZcI a i)).length
   ·rw[ZmF hu hv,ZdV];split
    ·omega
    ·have hl:∀k,(Zay (Zbt a.2.1 a.2.2.1 i f (ZcI a i)) k).length<=a.2.2.1.length:=λ k=>by
      by_cases hk:k<ZcI a i
      ·rw[Zbt,Zay,uJ,qC hk];exact ZiC ..
      ·rw[ZiK (by simp[Zbt];omega)];exact uG _
     have:=gQ (Zmu _ _) (zE (hl u) (hl v));omega
   ·have:Zak (Zc9 (Zbt a.2.1 a.2.2.1 i f (ZcI a i))) u v=0:=by
     rw[Zak,Zc9,Zay,uJ,qC hu];simp only[yY,yK];rw[at0,uK,uL (by simp;omega)];rfl
    omega
  ·have:Zak (Zc9 (Zbt a.2.1 a.2.2.1 i f (ZcI a i))) u v=0:=by
    rw[Zak,ZiK (by rw[Zc9];simp;omega)];simp[at0]
   omega
 ·rw[hz];omega
theorem ZDf {a:Lv}{old y:List Int}{w:Int}{i:Nat}(hw:0<=w/\w<=1000)(har:a.2.2.1.length<=700)(hy:y.length<=8):okM (stM a old y w i)=true:=by
 refine ZDd ⟨by rw[ZlU];omega,λ p hp=>?_,λ p hp x hx=>?_⟩ (by rw[ZlU];exact hy)
 ·rw[ZlU];obtain⟨u,_,rfl⟩:=uP.1 hp;exact Zex _ _
 ·obtain⟨u,_,rfl⟩:=uP.1 hp;obtain⟨v,_,rfl⟩:=uP.1 hx;have hb:a.2.2.1.length*a.2.2.1.length<=490000:=gQ (zE har har) (by decide);have h1:=ZpZ a i ((i:Int)-1) u v;have h2:=ZpZ a i ((i:Int)+1) u v;have h3:=(ZkE a old y hw i 2 u v).1;have h4:=(ZkE a old y hw i 0 u v).2;have e:ZdF a old y w i 2 u v=ZdF a old y w i 0 u v+Zak (ZaT a i ((i:Int)-1)) u v+Zak (ZaT a i ((i:Int)+1)) u v:=rfl;omega
theorem ZpE (m:List (List Int)):Part m.length 0 (Zc1 m).1/\(Zc1 m).2=Zat (Zak m) (Zc1 m).1:=by
 obtain⟨h1,_,h3⟩:=Go.Bd.best_of (Zak m) m.length [] (Zj6 _) _ (Zmw m);exact⟨h1,h3⟩
def ZvJ (a:Lv)(old:List (List Int))(w:Int)(i:Nat):Lv:=
 if(Zc1 (stM a (Zay old i) (Zay a.2.1 i) w i)).2<Zat (Zak (stM a (Zay old i) (Zay a.2.1 i) w i)) (List.range (Zay a.2.1 i).length)then Zcc a i (ZaM (Zay a.2.1 i) (Zc1 (stM a (Zay old i) (Zay a.2.1 i) w i)).1)else a
theorem Zwt (l:List Int)(hn:l.length<=1000000):Zah Tryz.prog 214 [.d (Zab l)] [(2000, .dead)] (.ref 2000 1 0 l.length l.length) [(2000, .row 1 (l.map D.int))]:=by
 rcases jC (l=[])with rfl|hl
 ·refine kM Tryz.func214 ?_;intro B X w0;refine Zdi ?_;refine kw1 kO kc0 kc0 ?_;refine Zkb 4 rfl ?_;intro b;cases b
  ·repeat' first|refine ZbH rfl ?_|refine Za0 ?_|refine ZgH (Nat.beq 5) ZcE ?_|(refine ZbM rfl rfl (λ hc=>?_) (λ hc=>?_)<;>try simp only[hcL]at hc)|(refine ZbL _ rfl rfl (λ hc=>?_) (λ hc=>?_)<;>(try simp only[hcL]at hc)<;>try omega)|simp(disch:=omega) only[go_sem,simprocAttr,roomy]|apply And.intro|omega|decide+kernel
   refine⟨_,ZbA.1 (kN (L:=[(2, .ref 2000 1 0 0 0)]) (M:=[(2000, .row 1 [])]) kc0 [(2000,7)]),?_⟩;exact⟨rfl,uO.2 ⟨rfl,yC _⟩⟩
  ·refine kw1 kO kc0 kc0 ?_;refine⟨_,Ent.trans (Zc3 2 7 1 rfl rfl) (ZbA.1 (eL [(2000,7)] [(2, .ref 2000 1 0 0 0)] [(2000, .row 1 [])] (by constructor<;>(repeat' first|exact yC _|refine uO.2 ⟨rfl,?_⟩)))),?_⟩;exact⟨rfl,uO.2 ⟨rfl,yC _⟩⟩
 ·have he:(l.map D.int).isEmpty=false:=by simpa using hl
  have hpos:0<l.length:=Ae.2 hl;refine kM Tryz.func214 ?_;intro B X w0;refine Zdi ?_
  repeat' first|refine ZbH rfl ?_|refine Za0 ?_|refine ZgH (Nat.beq 5) ZcE ?_|(refine ZbM rfl rfl (λ hc=>?_) (λ hc=>?_)<;>try simp only[hcL]at hc)|(refine ZbL _ rfl rfl (λ hc=>?_) (λ hc=>?_)<;>(try simp only[hcL]at hc)<;>try omega)|simp(disch:=omega) only[go_sem,simprocAttr,he,roomy,Zan]|exact Zha l|apply And.intro|omega|decide+kernel
  refine⟨_,ZbA.1 (kN (L:=[(2, .ref 2000 1 0 l.length l.length)]) (M:=[(2000, .row 1 (l.map D.int))]) kc0 [(2000,7)]),?_⟩;exact⟨rfl,uO.2 ⟨rfl,yC _⟩⟩
theorem ZlM (l m:List Int):Zaa Tryz.prog 31 [Zab l,Zab m] (.bool (decide (l=m))):=by
 refine kE Tryz.func31 ?_;intro hat B X w0;have hl:=ZaY 0 hat rfl;have hm:=ZaY 1 hat rfl;rw[uD]at hl hm;by_cases hlm:l.length=m.length
 ·refine kw1 kO kc0 kc0 ?_;refine Zae (λ(k:Nat)=>k<=l.length/\l.take k=m.take k) (λ k=>[(0, .d (Zab l)),(1, .d (Zab m)),(5, .int k)]) (λ k=>[]) (λ k=>l.length-k) 0 ?_ ?_ ?_
  ·exact⟨uG _,rfl⟩
  ·exact kN kc0 []
  ·rintro k ⟨hk,hinv⟩;rcases uC k l.length with hlt|hge
   ·obtain⟨p,hp⟩:=Zac hlt;obtain⟨q,hq⟩:=Zac (hlm▸hlt);refine kw kO (kc2 hp hq) kc0 ?_
    repeat' first|exact True.intro|refine Bn.mk ?_ ?_|intro hc
    ·refine Zai ?_;rw[uU (ZgR hp hq hc)]
    ·refine⟨k+1,?_,eL [] _ _ (by refine⟨?_,?_⟩<;>(repeat' first|exact fmn|refine fmc ⟨(by first|rfl|(simp(disch:=omega) only[go_sem,simprocAttr,inL];first|done|omega|(congr 1;done))),?_⟩);done),?_⟩
     ·exact⟨by omega,by rw[ZaA hp,ZaA hq,hinv,hc]⟩
     ·omega
   ·refine kw1 kO kc0 kc0 ?_;refine Zai ?_;rw[uE hge,uE (by omega)]at hinv;simp[hinv]
 ·refine kw1 kO kc0 kc0 ?_;refine Zai ?_;rw[uU];rintro rfl;exact hlm rfl
theorem sum_nil {a:Lv}(h:Zaw a=true):costF a [] 7=Zbk a:=by
 have hz:∀k,Zle a [] k=0:=by
  intro k
  induction k with
  |zero=>rfl
  |succ k ih=>
   have s1:Zle a [] (k+1)=Zle a [] k+(ZdL (Zay [] k) (Zay a.2.1 k):Int):=rfl;have s2:∀(l:List Int) i,ZcO [] l i=[]:=by
    intro l i
    induction i with
    |zero=>rfl
    |succ i ihi=>rw[ZcO];split<;>simp[ihi]
   have s3:Zay [] k=[]:=ZiK (uG _);rw[s1,ih,s3,ZdL,s2];rfl
 rw[costF,if_pos (by rw[okW,h];decide),hz];omega
end Go.Proofs.YtjjbhjnpeenbkaaGreatDoor
namespace Go.Proofs.YtjjbhjnpeenbkaaGreatDoor
open Go Go.PS Go.Proofs
open Go.Bd (ZcO)
set_option maxRecDepth 100000
attribute [local irreducible] Zad wpG Zaa Zah
end Go.Proofs.YtjjbhjnpeenbkaaGreatDoor
namespace Go.Proofs.YtjjbhjnpeenbkaaGreatDoor
open Go Go.PS Go.Proofs
open Go.Bd (ZdL ZcO Zat Part)
theorem Zoe {a:Lv}(hv:Zaw a=true){i:Nat}{y z:List Int}(hy:a.2.1[i]? =some y)(hz:z.Perm y):Ze3 a i z=(Zcc a i z,0):=by
 have hil:=(uB.1 hy).1;rw[Ze3,if_neg (by rw[hv];decide),if_neg (by omega),uK,hy,yK,if_neg (by rw[Zot hz];simp)];rfl
theorem ZAf {a:Lv}(hv:Zaw a=true){i:Nat}{y z:List Int}(hy:a.2.1[i]? =some y)(hz:z.Perm y):Zaw (Zcc a i z)=true:=by
 have h:=Zoe hv hy hz;have:=ZBr (a:=a) (i:=i) (o:=z) (by rw[h]);rw[h]at this;exact this
structure Kin (a b:Lv):Prop where
 ok:Zaw b=true
 wd:wide b
 len:b.2.1.length=a.2.1.length
 arcs:b.2.2.1=a.2.2.1
 perm:∀k,(Zay b.2.1 k).Perm (Zay a.2.1 k)
theorem Kin.refl {a:Lv}(hv:Zaw a=true)(hw:wide a):Kin a a:=⟨hv,hw,rfl,rfl,λ _=>List.Perm.refl _⟩
theorem Kin.put {a b:Lv}(h:Kin a b){i:Nat}{y z:List Int}(hy:b.2.1[i]? =some y)(hz:z.Perm y):Kin a (Zcc b i z):=by
 have hil:=(uB.1 hy).1;have hyl:y.length<=512:=by have:=Zyu h.ok i;rw[Zeu hy]at this;exact this
 refine⟨ZAf h.ok hy hz,?_,?_,h.arcs,λ k=>?_⟩
 ·have:=ZBs (a:=b) (i:=i) (o:=z) h.wd (by have:=hz.length_eq;omega);rw[Zoe h.ok hy hz]at this;exact this
 ·rw[<-h.len];exact yJ
 ·have hl:(Zcc b i z).2.1=b.2.1.set i z:=rfl;by_cases c:k=i
  ·subst c;have hs:Zay (b.2.1.set k z) k=z:=by rw[Zay,yX,if_pos rfl,if_pos hil];rfl
   rw[hl,hs];have:=h.perm k;rw[Zeu hy]at this;exact hz.trans this
  ·have:Zay (b.2.1.set i z) k=Zay b.2.1 k:=by rw[Zay,Zay,yX,if_neg (λ h=>c h.symm)]
   rw[hl,this];exact h.perm k
theorem Kin.lay {a b:Lv}(h:Kin a b){k:Nat}(hk:k<a.2.1.length):b.2.1[k]? =some (Zay b.2.1 k):=by
 obtain⟨y,hy⟩:=Zac (l:=b.2.1) (k:=k) (by have:=h.len;omega);rw[Zeu hy];exact hy
def Zbc (b:Lv)(old:List (List Int))(w:Int):Nat->Lv
 |0=>b
 |k+1=>if 8<(Zay (Zbc b old w k).2.1 k).length then Zbc b old w k else ZvJ (Zbc b old w k) old w k
end Go.Proofs.YtjjbhjnpeenbkaaGreatDoor
