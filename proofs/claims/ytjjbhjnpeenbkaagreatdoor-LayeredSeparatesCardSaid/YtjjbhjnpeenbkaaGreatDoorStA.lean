/- Matrices of pairs: whether they are valid, sums, and lists that contain a number. -/
import Derived.Test.YtjjbhjnpeenbkaaGreatDoorCe
import Derived.Test.YtjjbhjnpeenbkaaGreatDoorPSEnd
import Derived.Test.YtjjbhjnpeenbkaaGreatDoorPSBridge
set_option linter.unusedSimpArgs false
set_option linter.unusedVariables false
set_option maxHeartbeats 16000000
namespace Go.Proofs.YtjjbhjnpeenbkaaGreatDoor
open Go Go.PS Go.Proofs
open Go.Bd (sm Zaq Zbs)
set_option maxRecDepth 100000
attribute [local irreducible] Zad wpG Zaa Zag
abbrev Zam (v:Nat):D:= .int (v:Int)
abbrev Zbe (l:List Nat):D:= .sl (l.map Zam)
theorem ZAv (l:List Nat):Zbe l=Zab (l.map λ v:Nat=>(v:Int)):=by rw[Zbe,Zab,gR];rfl
theorem ZsV (l:List Nat):∀d,d∈l.map Zam->d.cells.length=1:=Zlh Zam 1 (λ _=>rfl) l
theorem Zid (v:Nat):∀d,d∈[Zam v]->d.cells.length=1:=λ d hd=>by rw[uS.1 hd];rfl
theorem ZAm {l:List Nat}{v:Nat}:(v:Int)∈l.map (λ v:Nat=>(v:Int))↔v∈l:=by
 simp[uP,Int.ofNat_inj]
theorem ZBK (l:List Int)(v:Int):decide (0<=placeF l v)=decide (v∈l):=by
 rw[ZtF,qV,gF];simp
theorem ZxL (l:List Int)(v:Int):Zaa Tryz.prog 224 [Zab l, .int v] (.bool (decide (v∈l))):=by
 have h:=ZlA l v;rw[<-ZBK];refine kE Tryz.func224 ?_;intro hat B X w0;refine kw1 kO kc0 (kc1 h) ?_;exact Zah rfl
theorem ZiP (l:List Nat)(v:Nat):Zaa Tryz.prog 224 [Zbe l, .int v] (.bool (decide (v∈l))):=by
 have h:=ZxL (l.map λ v:Nat=>(v:Int)) v;rw[<-ZAv,Cc.2 ZAm]at h;exact h
def Zdv (x:Int):Bool:=decide (x<0)||decide (1000000<x)
def ZhP (n:Nat)(p:List Int):Bool:=decide (p.length≠n)||p.any Zdv
def okM (m:List (List Int)):Bool:=decide (m.length<=8)&& !m.any (ZhP m.length)
theorem Zom {m:List (List Int)}(h:okM m=true):Sq m/\m.length<=8:=by
 simp only[okM,uL,uF,yC,yS]at h;obtain⟨h1,h2⟩:=h;have hr:∀p,p∈m->p.length=m.length/\∀x,x∈p->0<=x/\x<=1000000:=λ p hp=>by
  have:=h2 p hp;simp only[ZhP,qZ,uF,not_or,Cd,yS]at this;refine⟨by omega,λ x hx=>?_⟩;have:=this.2 x hx;simp only[Zdv,qZ,Bool.or_eq_false_iff,uF,qC,not_or]at this;omega
 exact⟨⟨by omega,λ p hp=>(hr p hp).1,λ p hp=>(hr p hp).2⟩,h1⟩
theorem ZEv {m:List (List Int)}(h:Sq m)(h8:m.length<=8):okM m=true:=by
 simp only[okM,uL,uF,yC,yS];refine⟨h8,λ p hp=>?_⟩;simp only[ZhP,qZ,uF,not_or,Cd,yS];refine⟨λ hne=>hne (h.row p hp),λ x hx=>?_⟩;have:=h.val p hp x hx;simp only[Zdv,qZ,Bool.or_eq_false_iff,uF,qC,not_or];omega
theorem Sq.small {m:List (List Int)}(h:Sq m):Zbs (Zak m) m.length:=λ u v hu hv=>by
 obtain⟨p,_,_,_,g1,g2⟩:=h.get hu hv;exact⟨g1,g2⟩
theorem ZwL (x:Int):Zaa Tryz.prog 223 [.int x] (.bool (Zdv x)):=by
 refine kE Tryz.func223 ?_;intro hat B X w0;refine kw kO kc0 kc0 ?_
 repeat' first|exact True.intro|refine Bn.mk ?_ ?_|intro hc
 all_goals
  refine Zah ?_;simp only[Zdv, *,Ax,zT,Cs,Cr,Bm,Bool.or_false]
theorem ZjE (m:List (List Int)):Zaa Tryz.prog 178 [Zae m] (.bool (okM m)):=by
 refine kE Tryz.func178 ?_;intro hat B X w0;have hl:=ZaJ 0 hat rfl;rw[uC]at hl;by_cases c8:8<m.length
 ·refine kw1 kO kc0 kc0 ?_;refine Zah ?_;rw[okM,uV (by omega)];rfl
 ·refine kw1 kO kc0 kc0 ?_;refine Zaf (λ(k:Nat)=>k<=m.length/\∀(j:Nat) y,j<k->m[j]? =some y->ZhP m.length y=false) (λ k=>[(0, .d (Zae m)),(8, .d (Zae m)),(9, .int m.length),(10, .int k)]) (λ k=>[]) (λ k=>m.length-k) 0 ?_ ?_ ?_
  ·exact⟨uH _,λ j y hj=>by omega⟩
  ·exact kN kc0 []
  ·rintro k ⟨hk,hinv⟩;rcases uE k m.length with hlt|hge
   ·obtain⟨p,hp⟩:=Zac hlt;have hcf:=ZjK p 223 Zdv ZwL;by_cases c:p.length=m.length
    ·have cI:(p.length:Int)=m.length:=by omega
     rcases hb:p.any Zdv with _|_<;>rw[hb]at hcf
     ·refine kw1 kO (kc2 hp cI) (kc1 hcf) ?_;refine⟨k+1,?_,kN kc0 [],?_⟩
      ·exact⟨by omega,Zbr hinv hp (by rw[ZhP,hb,uV (by omega)];rfl)⟩
      ·omega
     ·refine kw1 kO (kc2 hp cI) (kc1 hcf) ?_;refine Zah ?_;rw[okM,ZcE hp (by rw[ZhP,hb,Cr])];simp
    ·have cI:¬(p.length:Int)=m.length:=by omega
     refine kw1 kO (kc2 hp cI) (kc1 hcf) ?_;refine Zah ?_;rw[okM,ZcE hp (by rw[ZhP,yD c,Cs])];simp
   ·refine kw1 kO kc0 kc0 ?_;refine Zah ?_;rw[okM,Zc2 λ j y hj=>hinv j y (by omega),yD (by omega)];rfl
end Go.Proofs.YtjjbhjnpeenbkaaGreatDoor
namespace Go.Proofs.YtjjbhjnpeenbkaaGreatDoor
open Go Go.PS Go.Proofs
open Go.Bd (sm Zaq Zbs low Part Zbw Zbl)
set_option maxRecDepth 100000
attribute [local irreducible] Zad wpG Zaa Zag
def lwF (m:List (List Int))(k:Nat):Int:=sm (λ u=>sm (λ v=>min (Zak m u v) (Zak m v u)) u) k
theorem ZsF (m:List (List Int)):low (Zak m) m.length []=lwF m m.length:=by
 rw[low,lwF];refine Go.Bd.sm_congr _ λ u _=>Go.Bd.sm_congr _ λ v _=>?_
 rw[if_pos ⟨gL,gL⟩,Int.min_comm]
theorem Zj1 (a b:Int):(if b<a then b else a)=min a b:=by omega
theorem ZsE {m:List (List Int)}(hs:Sq m)(h8:m.length<=8){u:Nat}(hu:u<m.length)(k:Nat)(hk:k<=u):0<=sm (λ v=>min (Zak m u v) (Zak m v u)) k/\sm (λ v=>min (Zak m u v) (Zak m v u)) k<=1000000*k:=
 Go.Bd.sm_bounds k λ v hv=>by
  have h1:=hs.small u v hu (by omega);have h2:=hs.small v u (by omega) hu;omega
theorem ZsD {m:List (List Int)}(hs:Sq m)(h8:m.length<=8)(k:Nat)(hk:k<=m.length):0<=lwF m k/\lwF m k<=8000000*k:=
 Go.Bd.sm_bounds k λ u hu=>by
  have:=ZsE hs h8 (u:=u) (by omega) u (uJ _);omega
theorem ZvS (m:List (List Int))(h:okM m=true):Zaa Tryz.prog 180 [Zae m] (.int (low (Zak m) m.length [])):=by
 have hv:=ZjE m;rw[h]at hv;obtain⟨hs,h8⟩:=Zom h;rw[ZsF];refine kE Tryz.func180 ?_;intro hat B X w0;refine kw1 kO kc0 (kc1 hv) ?_;refine Zaf (λ(u:Nat)=>u<=m.length) (λ u=>[(0, .d (Zae m)),(3, .int (lwF m u)),(10, .int m.length),(11, .int u)]) (λ u=>[]) (λ u=>m.length-u) 0 ?_ ?_ ?_
 ·exact uH _
 ·exact eL [] _ _ (by refine⟨?_,?_⟩<;>(repeat' first|exact fmn|refine fmc ⟨(by first|rfl|(simp(disch:=omega) only[go_sem,simprocAttr,inL,lwF,sm];first|done|omega|(congr 1;done))),?_⟩);done)
 ·intro u hu;have hb:=ZsD hs h8 u hu;rcases uE u m.length with hlt|hge
  ·have e1:lwF m (u+1)=lwF m u+sm (λ v=>min (Zak m u v) (Zak m v u)) u:=rfl;refine kw1 kO kc0 kc0 ?_;refine Zaf (λ(v:Nat)=>v<=u) (λ v=>[(0, .d (Zae m)),(3, .int (lwF m u+sm (λ v=>min (Zak m u v) (Zak m v u)) v)),(4, .int u),(10, .int m.length),(11, .int u),(14, .int u),(15, .int v)]) (λ v=>[]) (λ v=>u-v) 0 ?_ ?_ ?_
   ·exact uH _
   ·exact eL [] _ _ (by refine⟨?_,?_⟩<;>(repeat' first|exact fmn|refine fmc ⟨(by first|rfl|(simp(disch:=omega) only[go_sem,simprocAttr,inL,sm,jW];first|done|omega|(congr 1;done))),?_⟩);done)
   ·intro v hv;have hb2:=ZsE hs h8 hlt v hv;rcases uE v u with hlv|hgv
    ·obtain⟨p,hp,hpl,hpv,h1,h2⟩:=hs.get hlt (show v<m.length by omega);obtain⟨q,hq,hql,hqv,h3,h4⟩:=hs.get (show v<m.length by omega) hlt;have e2:sm (λ v=>min (Zak m u v) (Zak m v u)) (v+1)=sm (λ v=>min (Zak m u v) (Zak m v u)) v+min (Zak m u v) (Zak m v u):=rfl;refine kw1 kO (kc5 hp hq hpv hqv @Zj1) kc0 ?_;refine⟨v+1,?_,kN (kc2 e2 @zJ) [],?_⟩
     ·omega
     ·omega
    ·have:v=u:=by omega
     subst this;refine kw1 kO kc0 kc0 ?_;refine⟨v+1,?_,kN (kc1 e1) [],?_⟩
     ·omega
     ·omega
  ·have:u=m.length:=by omega
   subst this;refine kw1 kO kc0 kc0 ?_;exact Zai rfl
theorem Zkp (n:Nat):Part n n []:=⟨zA,λ v hv=>absurd hv gL,by simp⟩
def Zc3 (m:List (List Int)):List Nat×Int:=(Zbw (Zak m) m.length m.length []).getD ([],0)
theorem ZmX (m:List (List Int)):Zbw (Zak m) m.length m.length []=some (Zc3 m):=by
 obtain⟨s,hs⟩:=Go.Bd.best_some (c:=Zak m) m.length [] (Zkp _);rw[Zc3,hs];rfl
end Go.Proofs.YtjjbhjnpeenbkaaGreatDoor
namespace Go.Proofs.YtjjbhjnpeenbkaaGreatDoor
open Go Go.PS Go.Proofs
open Go.Bd (sm Zaq Zbs low Part Zbw Zbl Zb7 ZbG ZcP Zdi Zdp)
set_option maxRecDepth 100000
attribute [local irreducible] Zad wpG Zaa Zag
theorem Zxz (l:List Nat)(hn:l.length<=1000000):Zag Tryz.prog 214 [.ref 1000 1 0 l.length l.length] [(1000, .row 1 (l.map Zam)),(2000, .dead)] (.ref 2000 1 0 l.length l.length) [(1000, .row 1 (l.map Zam)),(2000, .row 1 (l.map Zam))]:=by
 rcases gZ (l=[])with rfl|hl
 ·refine kM Tryz.func214 ?_;intro B X w0;refine Zdn ?_;refine kw1 kO kc0 kc0 ?_;refine Zku 4 rfl ?_;intro b;cases b
  ·repeat' first|refine ZbQ rfl ?_|refine Za7 ?_|refine ZgF (Nat.beq 5) ZcT ?_|(refine ZbY rfl rfl (λ hc=>?_) (λ hc=>?_)<;>try simp only[hcL]at hc)|(refine ZbW _ rfl rfl (λ hc=>?_) (λ hc=>?_)<;>(try simp only[hcL]at hc)<;>try omega)|simp(disch:=omega) only[go_sem,simprocAttr,roomy]|apply And.intro|omega|decide+kernel
   refine⟨_,Zby.1 (kN (L:=[(2, .ref 2000 1 0 0 0)]) (M:=[(1000, .row 1 []),(2000, .row 1 [])]) kc0 [(2000,7)]),?_⟩;exact⟨rfl,uK.2 ⟨rfl,uK.2 ⟨rfl,uW _⟩⟩⟩
  ·refine kw1 kO kc0 kc0 ?_;refine⟨_,Ent.trans (Zcy 2 7 1 rfl rfl) (Zby.1 (eL [(2000,7)] [(2, .ref 2000 1 0 0 0)] [(1000, .row 1 []),(2000, .row 1 [])] (by constructor<;>(repeat' first|exact uW _|refine uK.2 ⟨rfl,?_⟩)))),?_⟩;exact⟨rfl,uK.2 ⟨rfl,uK.2 ⟨rfl,uW _⟩⟩⟩
 ·have he:(l.map Zam).isEmpty=false:=by simpa using hl
  have hpos:0<l.length:=Ae.2 hl;have hne:l.length≠0:=by omega
  refine kM Tryz.func214 ?_;intro B X w0;refine Zdn ?_
  repeat' first|refine ZbQ rfl ?_|refine Za7 ?_|refine ZgF (Nat.beq 5) ZcT ?_|(refine ZbY rfl rfl (λ hc=>?_) (λ hc=>?_)<;>try simp only[hcL]at hc)|(refine ZbW _ rfl rfl (λ hc=>?_) (λ hc=>?_)<;>(try simp only[hcL]at hc)<;>try omega)|simp(disch:=omega) only[go_sem,simprocAttr,he,roomy,Zal,hne]|exact ZsV l|apply And.intro|omega|decide+kernel
  refine⟨_,Zby.1 (kN (L:=[(2, .ref 2000 1 0 l.length l.length)]) (M:=[(1000, .row 1 (l.map Zam)),(2000, .row 1 (l.map Zam))]) kc0 [(2000,7)]),?_⟩;exact⟨rfl,uK.2 ⟨rfl,uK.2 ⟨rfl,uW _⟩⟩⟩
def bPV :Option (List Nat×Int)->PV
 |none=> .nilS
 |some s=> .d (Zbe s.1)
def lI :Option (List Nat×Int)->Int
 |none=>0
 |some s=>s.2
theorem Zrd (c:Nat->Nat->Int)(n:Nat):∀(f:Nat) (l:List Nat),Part n f l->∀(st:Option (List Nat×Int)) (cost rest:Int),(∀s,st=some s->s.1.length=n)->∀s,Zb7 c n f l cost rest st=some s->s.1.length=n
 |0,l,hp,st,cost,rest,h,s,hs=>by
  rw[Zb7]at hs;split at hs
  ·exact h s hs
  ·cases hs;have:=hp.len;dsimp only;omega
 |f+1,l,hp,st,cost,rest,h,s,hs=>by
  rw[Go.Bd.ext_foldE]at hs;split at hs
  ·exact h s hs
  ·have key:∀k,k<=n->∀s,ZbG c n f l cost rest st k=some s->s.1.length=n:=by
    intro k
    induction k with
    |zero=>intro _ s hs;exact h s hs
    |succ k ih=>
     intro hk s hs;by_cases hm:k∈l
     ·rw[Go.Bd.foldE_in c n hm]at hs;exact ih (by omega) s hs
     ·rw[Go.Bd.foldE_out c n hm]at hs;exact Zrd c n f (l++[k]) (hp.snoc (by omega) hm) _ _ _ (ih (by omega)) s hs
   exact key n (uJ _) s hs
theorem ZyQ {c:Nat->Nat->Int}{n f:Nat}{l:List Nat}(hp:Part n (f+1) l){st:Option (List Nat×Int)}{cost rest:Int}(h:∀s,st=some s->s.1.length=n):∀k,k<=n->∀s,ZbG c n f l cost rest st k=some s->s.1.length=n:=by
 intro k
 induction k with
 |zero=>intro _ s hs;exact h s hs
 |succ k ih=>
  intro hk s hs;by_cases hm:k∈l
  ·rw[Go.Bd.foldE_in c n hm]at hs;exact ih (by omega) s hs
  ·rw[Go.Bd.foldE_out c n hm]at hs;exact Zrd c n f (l++[k]) (hp.snoc (by omega) hm) _ _ _ (ih (by omega)) s hs
def ZfE (m:List (List Int))(f:Nat)(l:List Nat)(st:Option (List Nat×Int))(cost rest:Int):Prop:=
 Zag Tryz.prog 179 [.ptr 1000 0 0 0, .int cost, .int rest] [(1000, .cells [.d (Zae m), .ref 1001 1 0 l.length l.length,bPV st, .int (lI st)]),(1001, .row 1 (l.map Zam)),(2000, .dead)] (.tup [])
  [(1000, .cells [.d (Zae m), .ref 2000 1 0 l.length l.length,bPV (Zb7 (Zak m) m.length f l cost rest st), .int (lI (Zb7 (Zak m) m.length f l cost rest st))]),(1001, .gone),(2000, .row 1 (l.map Zam))]
structure ExtIn (m:List (List Int))(l:List Nat)(st:Option (List Nat×Int))(cost rest:Int):Prop where
 len:∀s,st=some s->s.1.length=m.length
 pos:0<m.length\/st=none
 c0:0<=cost
 c1:cost<=8000000*l.length
 r0:-8000000*l.length<=rest
 r1:rest<=64000000
theorem Zre (m:List (List Int))(f:Nat)(l:List Nat)(st:Option (List Nat×Int))(cost rest:Int)(hi:ExtIn m l st cost rest)(hl:l.length<=8)(hsh:Zdp st (cost+rest)=true)(he:Zb7 (Zak m) m.length f l cost rest st=st):ZfE m f l st cost rest:=by
 rw[ZfE,he];rcases st with _|⟨b,k⟩
 ·cases hsh
 ·have hk:k<=cost+rest:=by simpa[Zdp]using hsh
  have hbl:=hi.len _ rfl;have hpos:0<m.length:=hi.pos.resolve_right (by simp);have hne:(b.map Zam).isEmpty=false:=by
   cases b with
   |nil=>simp at hbl;omega
   |cons x b=>rfl
  obtain⟨_,_,c0,c1,r0,r1⟩:=hi;simp only[bPV,lI];refine kM Tryz.func179 ?_;intro B X w0;refine Zdn ?_;refine kw1 kO (kc2 hne hk) kc0 ?_;refine⟨_,ZiT 1001 2000 rfl (by decide) (by decide),?_⟩;exact⟨⟨[],rfl,trivial⟩,uK.2 ⟨by simp[mvG,upd,Zap,Ob.ren,PV.ren],uK.2 ⟨rfl,uK.2 ⟨by simp[mvG,upd,Zap,Ob.ren,PV.ren],uW _⟩⟩⟩⟩
theorem Zyo (m:List (List Int))(hs:Sq m)(h8:m.length<=8)(l:List Nat)(hp:Part m.length 0 l)(st:Option (List Nat×Int))(cost rest:Int)(hi:ExtIn m l st cost rest)(hsh:Zdp st (cost+rest)=false):ZfE m 0 l st cost rest:=by
 have hll:=hp.len;have hlI:(l.length:Int)=m.length:=by omega
 have he:Zb7 (Zak m) m.length 0 l cost rest st=some (l,cost):=by rw[Zb7,if_neg (by rw[hsh];decide)]
 rw[ZfE,he];have hcl:=Zxz l (by omega);rcases st with _|⟨b,k⟩
 ·obtain⟨_,_,c0,c1,r0,r1⟩:=hi;simp only[bPV,lI];refine kM Tryz.func179 ?_;intro B X w0;refine Zdn ?_;refine kw1 kO (kc1 hlI) (kc1 (kmc [(1000,1001),(2000,905)] hcl)) ?_;refine⟨_,Ent.trans (Zby.1 (eL [] [] [(1000, .cells [.d (Zae m), .ref 1001 1 0 l.length l.length, .ref 905 1 0 l.length l.length, .int cost]),(1001, .row 1 (l.map Zam)),(905, .row 1 (l.map Zam))] (by constructor<;>(repeat' first|exact uW _|refine uK.2 ⟨rfl,?_⟩)))) (Ent.trans (Zc5 905 1 (l.map Zam) rfl (ZcW _ rfl) (by decide)) (ZiT 1001 2000 rfl (by decide) (by decide))),?_⟩;exact⟨⟨[],rfl,trivial⟩,uK.2 ⟨by simp[mvG,upd,Zap,Ob.ren,PV.ren,Zgt,Ob.frz,PV.frzL,PV.frz,Zal,hlI],uK.2 ⟨rfl,uK.2 ⟨by simp[mvG,upd,Zap,Ob.ren,PV.ren,Zgt,Ob.frz],uW _⟩⟩⟩⟩
 ·have hk:¬k<=cost+rest:=by simpa[Zdp]using hsh
  have hbl:=hi.len _ rfl;have hpos:0<m.length:=hi.pos.resolve_right (by simp);have hne:(b.map Zam).isEmpty=false:=by
   cases b with
   |nil=>simp at hbl;omega
   |cons x b=>rfl
  obtain⟨_,_,c0,c1,r0,r1⟩:=hi;simp only[bPV,lI];refine kM Tryz.func179 ?_;intro B X w0;refine Zdn ?_;refine kw1 kO (kc3 hne hk hlI) (kc1 (kmc [(1000,1001),(2000,905)] hcl)) ?_;refine⟨_,Ent.trans (Zby.1 (eL [] [] [(1000, .cells [.d (Zae m), .ref 1001 1 0 l.length l.length, .ref 905 1 0 l.length l.length, .int cost]),(1001, .row 1 (l.map Zam)),(905, .row 1 (l.map Zam))] (by constructor<;>(repeat' first|exact uW _|refine uK.2 ⟨rfl,?_⟩)))) (Ent.trans (Zc5 905 1 (l.map Zam) rfl (ZcW _ rfl) (by decide)) (ZiT 1001 2000 rfl (by decide) (by decide))),?_⟩;exact⟨⟨[],rfl,trivial⟩,uK.2 ⟨by simp[mvG,upd,Zap,Ob.ren,PV.ren,Zgt,Ob.frz,PV.frzL,PV.frz,Zal,hlI],uK.2 ⟨rfl,uK.2 ⟨by simp[mvG,upd,Zap,Ob.ren,PV.ren,Zgt,Ob.frz],uW _⟩⟩⟩⟩
def ZbO (m:List (List Int))(l:List Nat)(v k:Nat):Int:=sm (λ w=>if w≠v/\w∉l then Zak m v w else 0) k
def ZbM (m:List (List Int))(l:List Nat)(v k:Nat):Int:=sm (λ w=>if w≠v/\w∉l then min (Zak m v w) (Zak m w v)else 0) k
theorem Zts {ids:List Nat}{S:St}{o o2:Nat}(h1:o∈ids)(h2:o2<1000\/2000<=o2)(h:Zb5 ids S.objs):
  Zb5 ids (λ x=>if x=o then .gone else if x=o2 then(S.objs o).ren (mvG o o2)else(S.objs x).ren (mvG o o2)):=λ i a b hi=>by
 dsimp only;rw[if_neg (λ e:i=o=>hi (e▸h1)),if_neg (by omega),h i a b hi];rfl
theorem Zg9 {m:List (List Int)}{l:List Nat}{v k:Nat}(h:¬(k≠v/\k∉l)):ZbO m l v (k+1)=ZbO m l v k:=by rw[ZbO,sm,if_neg h,jW];rfl
theorem ZlM {m:List (List Int)}{l:List Nat}{v k:Nat}(h:k≠v/\k∉l):ZbO m l v (k+1)=ZbO m l v k+Zak m v k:=by rw[ZbO,sm,if_pos h];rfl
theorem Zg7 {m:List (List Int)}{l:List Nat}{v k:Nat}(h:¬(k≠v/\k∉l)):ZbM m l v (k+1)=ZbM m l v k:=by rw[ZbM,sm,if_neg h,jW];rfl
theorem ZlD {m:List (List Int)}{l:List Nat}{v k:Nat}(h:k≠v/\k∉l):ZbM m l v (k+1)=ZbM m l v k+min (Zak m v k) (Zak m k v):=by rw[ZbM,sm,if_pos h];rfl
theorem Zyn (m:List (List Int))(hs:Sq m)(h8:m.length<=8):∀(f:Nat) (l:List Nat),Part m.length f l->∀(st:Option (List Nat×Int)) (cost rest:Int),ExtIn m l st cost rest->ZfE m f l st cost rest:=by
 intro f
 induction f with
 |zero=>
  intro l hp st cost rest hi;have hll:=hp.len;rcases hsh:Zdp st (cost+rest)with _|_
  ·exact Zyo m hs h8 l hp st cost rest hi hsh
  ·exact Zre m 0 l st cost rest hi (by omega) hsh (by rw[Zb7,if_pos hsh])
 |succ f IH=>
  intro l hp st cost rest hi;have hll:=hp.len;rcases hsh:Zdp st (cost+rest)with _|_
  ·rw[ZfE,Go.Bd.ext_foldE,if_neg (by rw[hsh];decide)];have hlen:=ZyQ (cost:=cost) (rest:=rest) (c:=Zak m) hp hi.len;have hIH:∀v,v<m.length->v∉l->ZfE m f (l++[v]) (ZbG (Zak m) m.length f l cost rest st v) (cost+ZbO m l v m.length) (rest-ZbM m l v m.length):=λ v hv hm=>by
    have b1:0<=ZbO m l v m.length/\ZbO m l v m.length<=1000000*m.length:=Go.Bd.more_bounds hs.small l hv m.length (uJ _);have b2:0<=ZbM m l v m.length/\ZbM m l v m.length<=1000000*m.length:=Go.Bd.less_bounds hs.small l hv m.length (uJ _);have b3:=hi.c0;have b4:=hi.c1;have b5:=hi.r0;have b6:=hi.r1;refine IH _ (hp.snoc hv hm) _ _ _ ⟨hlen v (by omega), .inl (by omega),by omega,?_,?_,by omega⟩
    ·rw[uG,qQ,zW];simp only[yB,uY];omega
    ·rw[uG,qQ,zW];simp only[yB,uY];omega
   obtain⟨st0,hst0⟩:∃st0,st=st0:=⟨_,rfl⟩;rw[hst0]at hlen hIH|-;obtain⟨hbl,hpos,c0,c1,r0,r1⟩:=hi;obtain⟨⟨be,ke⟩,hend⟩:∃s,ZbG (Zak m) m.length f l cost rest st0 m.length=some s:=by
    obtain⟨s,hx⟩:=Go.Bd.ext_some (c:=Zak m) (f+1) l hp cost rest st0;rw[Go.Bd.ext_foldE,if_neg (by rw[<-hst0,hsh];decide)]at hx;exact⟨s,hx⟩
   rw[hend]
   all_goals
    rw[<-hst0];rcases st with _|⟨b,k⟩
    all_goals simp only[bPV,lI]
    all_goals
     refine kM Tryz.func179 ?_
    all_goals intro B X w0
    all_goals refine Zdn ?_
    ·have hnl:¬(l.length:Int)=m.length:=by omega
     refine kw1 kO (kc1 hnl) kc0 ?_;refine Zaf (λ(v:Nat)=>v<=m.length) (λ v=>[(0, .ptr 1000 0 0 0),(1, .int cost),(2, .int rest),(51, .d (Zae m)),(52, .int m.length),(53, .int v)]) (λ v=>[(1000, .cells [.d (Zae m), .ref 901 1 0 l.length l.length,bPV (ZbG (Zak m) m.length f l cost rest st0 v), .int (lI (ZbG (Zak m) m.length f l cost rest st0 v))]),(1001, .gone),(901, .row 1 (l.map Zam))]) (λ v=>m.length-v) 0 ?_ ?_ ?_
     ·exact uH _
     ·try dsimp only
      rw[Go.Bd.foldE_zero,<-hst0];exact Zby.2 (Ent.trans (ZiT 1001 901 rfl (by decide) (by decide)) (Zby.1 (eL [] _ _ (by refine⟨?_,?_⟩<;>(repeat' first|exact uW _|refine uK.2 ⟨(by first|rfl|(simp(disch:=omega) only[go_sem,simprocAttr,inL,bPV,lI];first|done|omega|(congr 1;done))),?_⟩);done) (h7:=Zts (by simp) (by decide) (by repeat' first|exact ZgB|exact ZgC _ rfl|refine ZgD rfl ?_)))))
     ·intro v hv;have hlv:=hlen v hv;rcases uE v m.length with hlt|hge
      ·have hin:=ZiP l v;by_cases hm:v∈l
       ·rw[yD hm]at hin;have e1:=Go.Bd.foldE_in (Zak m) m.length (f:=f) (cost:=cost) (rest:=rest) (st:=st0) hm;rcases hst:ZbG (Zak m) m.length f l cost rest st0 v with _|⟨b0,k0⟩<;>rw[hst]at e1<;>simp only[bPV,lI]
        all_goals
         refine kw1 kO (kc1 @Zal) (kc1 hin) ?_;refine⟨v+1,?_,?_,?_⟩
         ·omega
         ·try dsimp only
          rw[e1];exact kN (kc2 @bPV.eq_1 @lI.eq_1) []
         ·omega
       ·rw[uV hm]at hin;have e1:=Go.Bd.foldE_out (Zak m) m.length (f:=f) (cost:=cost) (rest:=rest) (st:=st0) hm;have ih:=hIH v hlt hm;have en:(((l.length+1:Nat):Int)-1).toNat=l.length:=by omega
        have hT:(l.map Zam++[Zam v]).take l.length=l.map Zam:=List.take_left' (uC ..);rcases hst:ZbG (Zak m) m.length f l cost rest st0 v with _|⟨b0,k0⟩
        all_goals
         rw[hst]at e1 ih;have e3:ZbG (Zak m) m.length f l cost rest st0 (v+1)=Zb7 (Zak m) m.length f (l++[v]) (cost+ZbO m l v m.length) (rest-ZbM m l v m.length) _:=e1;rw[ZfE,<-e3]at ih;obtain⟨⟨b2,k2⟩,hst2⟩:∃s,ZbG (Zak m) m.length f l cost rest st0 (v+1)=some s:=by
          rw[e3];exact Go.Bd.ext_some f (l++[v]) (hp.snoc hlt hm) _ _ _
         rw[hst2]at ih e3;simp only[bPV,lI,uG,yB,uY,uQ,uT,yH,qT]at ih|-
        ·refine kw1 kO (kc1 @Zal) (kc1 hin) ?_;refine Zaf (λ(w:Nat)=>w<=m.length) (λ w=>[(0, .ptr 1000 0 0 0),(1, .int cost),(2, .int rest),(6, .int v),(7, .int (ZbO m l v w)),(8, .int (ZbM m l v w)),(51, .d (Zae m)),(52, .int m.length),(53, .int v),(65, .d (Zae m)),(66, .int m.length),(67, .int w)]) (λ w=>[(1000, .cells [.d (Zae m), .ref 901 1 0 l.length l.length, .nilS, .int 0]),(1001, .gone),(901, .row 1 (l.map Zam))]) (λ w=>m.length-w) 0 ?_ ?_ ?_
         ·exact uH _
         ·exact eL [] _ _ (by refine⟨?_,?_⟩<;>(repeat' first|exact fmn|refine fmc ⟨(by first|rfl|(simp(disch:=omega) only[go_sem,simprocAttr,inL,ZbO,ZbM,sm];first|done|omega|(congr 1;done))),?_⟩);done)
         ·intro w hw;have b1:0<=ZbO m l v w/\ZbO m l v w<=1000000*w:=Go.Bd.more_bounds hs.small l hlt w hw;have b2:0<=ZbM m l v w/\ZbM m l v w<=1000000*w:=Go.Bd.less_bounds hs.small l hlt w hw;rcases uE w m.length with hlw|hgw
          ·obtain⟨p,hp1,hp2,hp3,hp4,hp5⟩:=hs.get hlt hlw;obtain⟨q,hq1,hq2,hq3,hq4,hq5⟩:=hs.get hlw hlt;have hcw:=ZiP l w;by_cases d1:w=v
           ·have e1:=Zg9 (m:=m) (l:=l) (v:=v) (k:=w) (λ h=>h.1 d1);have e2:=Zg7 (m:=m) (l:=l) (v:=v) (k:=w) (λ h=>h.1 d1);have d1I:(w:Int)=v:=by omega
            refine kw1 kO (kc1 d1I) kc0 ?_;refine⟨w+1,?_,kN (kc2 e1 e2) [],?_⟩
            ·omega
            ·omega
           ·have d1I:¬(w:Int)=v:=by omega
            by_cases d2:w∈l
            ·have e1:=Zg9 (m:=m) (l:=l) (v:=v) (k:=w) (λ h=>h.2 d2);have e2:=Zg7 (m:=m) (l:=l) (v:=v) (k:=w) (λ h=>h.2 d2);rw[yD d2]at hcw;refine kw1 kO (kc2 d1I @Zal) (kc1 hcw) ?_;refine⟨w+1,?_,kN (kc2 e1 e2) [],?_⟩
             ·omega
             ·omega
            ·have e1:=ZlM (m:=m) (l:=l) (v:=v) (k:=w) ⟨d1,d2⟩;have e2:=ZlD (m:=m) (l:=l) (v:=v) (k:=w) ⟨d1,d2⟩;rw[uV d2]at hcw;refine kw1 kO (kc7 d1I @Zal hp1 hp3 hq1 hq3 @Zj1) (kc1 hcw) ?_;refine⟨w+1,?_,kN (kc2 e1 e2) [],?_⟩
             ·omega
             ·omega
          ·have:w=m.length:=by omega
           subst this
           repeat' first|refine ZbQ rfl ?_|refine Za7 ?_|refine wR ?_|refine rcM [(1001,125),(2000,904)] (ih) rfl ?_|(refine ZbY rfl rfl (λ hc=>?_) (λ hc=>?_)<;>try simp only[hcL]at hc)|(refine ZbW _ rfl rfl (λ hc=>?_) (λ hc=>?_)<;>(try simp only[hcL]at hc)<;>try omega)|simp(disch:=omega) only[go_sem,simprocAttr,roomy,Zal,en,zG]|exact Zid v|apply And.intro|omega|decide+kernel
           refine⟨v+1,?_,?_,?_⟩
           ·omega
           ·try dsimp only
            rw[hst2];exact Zby.2 (Ent.trans (Zlr 904 1 _ l.length rfl) (Ent.trans (Zlq 1000 1 904 1 0 l.length (l.length+1) l.length rfl rfl (by omega)) (Zby.1 (eL [(901,904)] _ _ (by refine⟨?_,?_⟩<;>(repeat' first|exact uW _|refine uK.2 ⟨(by first|rfl|(simp(disch:=omega) only[go_sem,simprocAttr,inL,hT,bPV,lI,Ak,jZ];first|done|omega|(congr 1;done))),?_⟩);done)))))
           ·omega
        ·refine kw1 kO (kc1 @Zal) (kc1 hin) ?_;refine Zaf (λ(w:Nat)=>w<=m.length) (λ w=>[(0, .ptr 1000 0 0 0),(1, .int cost),(2, .int rest),(6, .int v),(7, .int (ZbO m l v w)),(8, .int (ZbM m l v w)),(51, .d (Zae m)),(52, .int m.length),(53, .int v),(65, .d (Zae m)),(66, .int m.length),(67, .int w)]) (λ w=>[(1000, .cells [.d (Zae m), .ref 901 1 0 l.length l.length, .d (Zbe b0), .int k0]),(1001, .gone),(901, .row 1 (l.map Zam))]) (λ w=>m.length-w) 0 ?_ ?_ ?_
         ·exact uH _
         ·exact eL [] _ _ (by refine⟨?_,?_⟩<;>(repeat' first|exact fmn|refine fmc ⟨(by first|rfl|(simp(disch:=omega) only[go_sem,simprocAttr,inL,ZbO,ZbM,sm];first|done|omega|(congr 1;done))),?_⟩);done)
         ·intro w hw;have b1:0<=ZbO m l v w/\ZbO m l v w<=1000000*w:=Go.Bd.more_bounds hs.small l hlt w hw;have b2:0<=ZbM m l v w/\ZbM m l v w<=1000000*w:=Go.Bd.less_bounds hs.small l hlt w hw;rcases uE w m.length with hlw|hgw
          ·obtain⟨p,hp1,hp2,hp3,hp4,hp5⟩:=hs.get hlt hlw;obtain⟨q,hq1,hq2,hq3,hq4,hq5⟩:=hs.get hlw hlt;have hcw:=ZiP l w;by_cases d1:w=v
           ·have e1:=Zg9 (m:=m) (l:=l) (v:=v) (k:=w) (λ h=>h.1 d1);have e2:=Zg7 (m:=m) (l:=l) (v:=v) (k:=w) (λ h=>h.1 d1);have d1I:(w:Int)=v:=by omega
            refine kw1 kO (kc1 d1I) kc0 ?_;refine⟨w+1,?_,kN (kc2 e1 e2) [],?_⟩
            ·omega
            ·omega
           ·have d1I:¬(w:Int)=v:=by omega
            by_cases d2:w∈l
            ·have e1:=Zg9 (m:=m) (l:=l) (v:=v) (k:=w) (λ h=>h.2 d2);have e2:=Zg7 (m:=m) (l:=l) (v:=v) (k:=w) (λ h=>h.2 d2);rw[yD d2]at hcw;refine kw1 kO (kc2 d1I @Zal) (kc1 hcw) ?_;refine⟨w+1,?_,kN (kc2 e1 e2) [],?_⟩
             ·omega
             ·omega
            ·have e1:=ZlM (m:=m) (l:=l) (v:=v) (k:=w) ⟨d1,d2⟩;have e2:=ZlD (m:=m) (l:=l) (v:=v) (k:=w) ⟨d1,d2⟩;rw[uV d2]at hcw;refine kw1 kO (kc7 d1I @Zal hp1 hp3 hq1 hq3 @Zj1) (kc1 hcw) ?_;refine⟨w+1,?_,kN (kc2 e1 e2) [],?_⟩
             ·omega
             ·omega
          ·have:w=m.length:=by omega
           subst this
           repeat' first|refine ZbQ rfl ?_|refine Za7 ?_|refine wR ?_|refine rcM [(1001,125),(2000,904)] (ih) rfl ?_|(refine ZbY rfl rfl (λ hc=>?_) (λ hc=>?_)<;>try simp only[hcL]at hc)|(refine ZbW _ rfl rfl (λ hc=>?_) (λ hc=>?_)<;>(try simp only[hcL]at hc)<;>try omega)|simp(disch:=omega) only[go_sem,simprocAttr,roomy,Zal,en,zG]|exact Zid v|apply And.intro|omega|decide+kernel
           refine⟨v+1,?_,?_,?_⟩
           ·omega
           ·try dsimp only
            rw[hst2];exact Zby.2 (Ent.trans (Zlr 904 1 _ l.length rfl) (Ent.trans (Zlq 1000 1 904 1 0 l.length (l.length+1) l.length rfl rfl (by omega)) (Zby.1 (eL [(901,904)] _ _ (by refine⟨?_,?_⟩<;>(repeat' first|exact uW _|refine uK.2 ⟨(by first|rfl|(simp(disch:=omega) only[go_sem,simprocAttr,inL,hT,bPV,lI,Ak,jZ];first|done|omega|(congr 1;done))),?_⟩);done)))))
           ·omega
      ·have:v=m.length:=by omega
       subst this;rw[hend];simp only[bPV,lI];refine kw1 kO kc0 kc0 ?_;refine⟨_,Zby.1 (eL [(2000,901)] [] [(1000, .cells [.d (Zae m), .ref 2000 1 0 l.length l.length, .d (Zbe be), .int ke]),(1001, .gone),(2000, .row 1 (l.map Zam))] (by constructor<;>(repeat' first|exact uW _|refine uK.2 ⟨rfl,?_⟩);done)),?_⟩;exact⟨⟨[],rfl,trivial⟩,uK.2 ⟨rfl,uK.2 ⟨rfl,uK.2 ⟨rfl,uW _⟩⟩⟩⟩
    ·have hk:¬k<=cost+rest:=by simpa[Zdp]using hsh
     have hbl':=hbl _ rfl;have hnl:¬(l.length:Int)=m.length:=by omega
     have hne:(b.map Zam).isEmpty=false:=by
      cases b with
      |nil=>simp at hbl';omega
      |cons x b=>rfl
     refine kw1 kO (kc3 hne hk hnl) kc0 ?_;refine Zaf (λ(v:Nat)=>v<=m.length) (λ v=>[(0, .ptr 1000 0 0 0),(1, .int cost),(2, .int rest),(51, .d (Zae m)),(52, .int m.length),(53, .int v)]) (λ v=>[(1000, .cells [.d (Zae m), .ref 901 1 0 l.length l.length,bPV (ZbG (Zak m) m.length f l cost rest st0 v), .int (lI (ZbG (Zak m) m.length f l cost rest st0 v))]),(1001, .gone),(901, .row 1 (l.map Zam))]) (λ v=>m.length-v) 0 ?_ ?_ ?_
     ·exact uH _
     ·try dsimp only
      rw[Go.Bd.foldE_zero,<-hst0];exact Zby.2 (Ent.trans (ZiT 1001 901 rfl (by decide) (by decide)) (Zby.1 (eL [] _ _ (by refine⟨?_,?_⟩<;>(repeat' first|exact uW _|refine uK.2 ⟨(by first|rfl|(simp(disch:=omega) only[go_sem,simprocAttr,inL,bPV,lI];first|done|omega|(congr 1;done))),?_⟩);done) (h7:=Zts (by simp) (by decide) (by repeat' first|exact ZgB|exact ZgC _ rfl|refine ZgD rfl ?_)))))
     ·intro v hv;have hlv:=hlen v hv;rcases uE v m.length with hlt|hge
      ·have hin:=ZiP l v;by_cases hm:v∈l
       ·rw[yD hm]at hin;have e1:=Go.Bd.foldE_in (Zak m) m.length (f:=f) (cost:=cost) (rest:=rest) (st:=st0) hm;rcases hst:ZbG (Zak m) m.length f l cost rest st0 v with _|⟨b0,k0⟩<;>rw[hst]at e1<;>simp only[bPV,lI]
        all_goals
         refine kw1 kO (kc1 @Zal) (kc1 hin) ?_;refine⟨v+1,?_,?_,?_⟩
         ·omega
         ·try dsimp only
          rw[e1];exact kN (kc2 @bPV.eq_1 @lI.eq_1) []
         ·omega
       ·rw[uV hm]at hin;have e1:=Go.Bd.foldE_out (Zak m) m.length (f:=f) (cost:=cost) (rest:=rest) (st:=st0) hm;have ih:=hIH v hlt hm;have en:(((l.length+1:Nat):Int)-1).toNat=l.length:=by omega
        have hT:(l.map Zam++[Zam v]).take l.length=l.map Zam:=List.take_left' (uC ..);rcases hst:ZbG (Zak m) m.length f l cost rest st0 v with _|⟨b0,k0⟩
        all_goals
         rw[hst]at e1 ih;have e3:ZbG (Zak m) m.length f l cost rest st0 (v+1)=Zb7 (Zak m) m.length f (l++[v]) (cost+ZbO m l v m.length) (rest-ZbM m l v m.length) _:=e1;rw[ZfE,<-e3]at ih;obtain⟨⟨b2,k2⟩,hst2⟩:∃s,ZbG (Zak m) m.length f l cost rest st0 (v+1)=some s:=by
          rw[e3];exact Go.Bd.ext_some f (l++[v]) (hp.snoc hlt hm) _ _ _
         rw[hst2]at ih e3;simp only[bPV,lI,uG,yB,uY,uQ,uT,yH,qT]at ih|-
        ·refine kw1 kO (kc1 @Zal) (kc1 hin) ?_;refine Zaf (λ(w:Nat)=>w<=m.length) (λ w=>[(0, .ptr 1000 0 0 0),(1, .int cost),(2, .int rest),(6, .int v),(7, .int (ZbO m l v w)),(8, .int (ZbM m l v w)),(51, .d (Zae m)),(52, .int m.length),(53, .int v),(65, .d (Zae m)),(66, .int m.length),(67, .int w)]) (λ w=>[(1000, .cells [.d (Zae m), .ref 901 1 0 l.length l.length, .nilS, .int 0]),(1001, .gone),(901, .row 1 (l.map Zam))]) (λ w=>m.length-w) 0 ?_ ?_ ?_
         ·exact uH _
         ·exact eL [] _ _ (by refine⟨?_,?_⟩<;>(repeat' first|exact fmn|refine fmc ⟨(by first|rfl|(simp(disch:=omega) only[go_sem,simprocAttr,inL,ZbO,ZbM,sm];first|done|omega|(congr 1;done))),?_⟩);done)
         ·intro w hw;have b1:0<=ZbO m l v w/\ZbO m l v w<=1000000*w:=Go.Bd.more_bounds hs.small l hlt w hw;have b2:0<=ZbM m l v w/\ZbM m l v w<=1000000*w:=Go.Bd.less_bounds hs.small l hlt w hw;rcases uE w m.length with hlw|hgw
          ·obtain⟨p,hp1,hp2,hp3,hp4,hp5⟩:=hs.get hlt hlw;obtain⟨q,hq1,hq2,hq3,hq4,hq5⟩:=hs.get hlw hlt;have hcw:=ZiP l w;by_cases d1:w=v
           ·have e1:=Zg9 (m:=m) (l:=l) (v:=v) (k:=w) (λ h=>h.1 d1);have e2:=Zg7 (m:=m) (l:=l) (v:=v) (k:=w) (λ h=>h.1 d1);have d1I:(w:Int)=v:=by omega
            refine kw1 kO (kc1 d1I) kc0 ?_;refine⟨w+1,?_,kN (kc2 e1 e2) [],?_⟩
            ·omega
            ·omega
           ·have d1I:¬(w:Int)=v:=by omega
            by_cases d2:w∈l
            ·have e1:=Zg9 (m:=m) (l:=l) (v:=v) (k:=w) (λ h=>h.2 d2);have e2:=Zg7 (m:=m) (l:=l) (v:=v) (k:=w) (λ h=>h.2 d2);rw[yD d2]at hcw;refine kw1 kO (kc2 d1I @Zal) (kc1 hcw) ?_;refine⟨w+1,?_,kN (kc2 e1 e2) [],?_⟩
             ·omega
             ·omega
            ·have e1:=ZlM (m:=m) (l:=l) (v:=v) (k:=w) ⟨d1,d2⟩;have e2:=ZlD (m:=m) (l:=l) (v:=v) (k:=w) ⟨d1,d2⟩;rw[uV d2]at hcw;refine kw1 kO (kc7 d1I @Zal hp1 hp3 hq1 hq3 @Zj1) (kc1 hcw) ?_;refine⟨w+1,?_,kN (kc2 e1 e2) [],?_⟩
             ·omega
             ·omega
          ·have:w=m.length:=by omega
           subst this
           repeat' first|refine ZbQ rfl ?_|refine Za7 ?_|refine wR ?_|refine rcM [(1001,125),(2000,904)] (ih) rfl ?_|(refine ZbY rfl rfl (λ hc=>?_) (λ hc=>?_)<;>try simp only[hcL]at hc)|(refine ZbW _ rfl rfl (λ hc=>?_) (λ hc=>?_)<;>(try simp only[hcL]at hc)<;>try omega)|simp(disch:=omega) only[go_sem,simprocAttr,roomy,Zal,en,zG]|exact Zid v|apply And.intro|omega|decide+kernel
           refine⟨v+1,?_,?_,?_⟩
           ·omega
           ·try dsimp only
            rw[hst2];exact Zby.2 (Ent.trans (Zlr 904 1 _ l.length rfl) (Ent.trans (Zlq 1000 1 904 1 0 l.length (l.length+1) l.length rfl rfl (by omega)) (Zby.1 (eL [(901,904)] _ _ (by refine⟨?_,?_⟩<;>(repeat' first|exact uW _|refine uK.2 ⟨(by first|rfl|(simp(disch:=omega) only[go_sem,simprocAttr,inL,hT,bPV,lI,Ak,jZ];first|done|omega|(congr 1;done))),?_⟩);done)))))
           ·omega
        ·refine kw1 kO (kc1 @Zal) (kc1 hin) ?_;refine Zaf (λ(w:Nat)=>w<=m.length) (λ w=>[(0, .ptr 1000 0 0 0),(1, .int cost),(2, .int rest),(6, .int v),(7, .int (ZbO m l v w)),(8, .int (ZbM m l v w)),(51, .d (Zae m)),(52, .int m.length),(53, .int v),(65, .d (Zae m)),(66, .int m.length),(67, .int w)]) (λ w=>[(1000, .cells [.d (Zae m), .ref 901 1 0 l.length l.length, .d (Zbe b0), .int k0]),(1001, .gone),(901, .row 1 (l.map Zam))]) (λ w=>m.length-w) 0 ?_ ?_ ?_
         ·exact uH _
         ·exact eL [] _ _ (by refine⟨?_,?_⟩<;>(repeat' first|exact fmn|refine fmc ⟨(by first|rfl|(simp(disch:=omega) only[go_sem,simprocAttr,inL,ZbO,ZbM,sm];first|done|omega|(congr 1;done))),?_⟩);done)
         ·intro w hw;have b1:0<=ZbO m l v w/\ZbO m l v w<=1000000*w:=Go.Bd.more_bounds hs.small l hlt w hw;have b2:0<=ZbM m l v w/\ZbM m l v w<=1000000*w:=Go.Bd.less_bounds hs.small l hlt w hw;rcases uE w m.length with hlw|hgw
          ·obtain⟨p,hp1,hp2,hp3,hp4,hp5⟩:=hs.get hlt hlw;obtain⟨q,hq1,hq2,hq3,hq4,hq5⟩:=hs.get hlw hlt;have hcw:=ZiP l w;by_cases d1:w=v
           ·have e1:=Zg9 (m:=m) (l:=l) (v:=v) (k:=w) (λ h=>h.1 d1);have e2:=Zg7 (m:=m) (l:=l) (v:=v) (k:=w) (λ h=>h.1 d1);have d1I:(w:Int)=v:=by omega
            refine kw1 kO (kc1 d1I) kc0 ?_;refine⟨w+1,?_,kN (kc2 e1 e2) [],?_⟩
            ·omega
            ·omega
           ·have d1I:¬(w:Int)=v:=by omega
            by_cases d2:w∈l
            ·have e1:=Zg9 (m:=m) (l:=l) (v:=v) (k:=w) (λ h=>h.2 d2);have e2:=Zg7 (m:=m) (l:=l) (v:=v) (k:=w) (λ h=>h.2 d2);rw[yD d2]at hcw;refine kw1 kO (kc2 d1I @Zal) (kc1 hcw) ?_;refine⟨w+1,?_,kN (kc2 e1 e2) [],?_⟩
             ·omega
             ·omega
            ·have e1:=ZlM (m:=m) (l:=l) (v:=v) (k:=w) ⟨d1,d2⟩;have e2:=ZlD (m:=m) (l:=l) (v:=v) (k:=w) ⟨d1,d2⟩;rw[uV d2]at hcw;refine kw1 kO (kc7 d1I @Zal hp1 hp3 hq1 hq3 @Zj1) (kc1 hcw) ?_;refine⟨w+1,?_,kN (kc2 e1 e2) [],?_⟩
             ·omega
             ·omega
          ·have:w=m.length:=by omega
           subst this
           repeat' first|refine ZbQ rfl ?_|refine Za7 ?_|refine wR ?_|refine rcM [(1001,125),(2000,904)] (ih) rfl ?_|(refine ZbY rfl rfl (λ hc=>?_) (λ hc=>?_)<;>try simp only[hcL]at hc)|(refine ZbW _ rfl rfl (λ hc=>?_) (λ hc=>?_)<;>(try simp only[hcL]at hc)<;>try omega)|simp(disch:=omega) only[go_sem,simprocAttr,roomy,Zal,en,zG]|exact Zid v|apply And.intro|omega|decide+kernel
           refine⟨v+1,?_,?_,?_⟩
           ·omega
           ·try dsimp only
            rw[hst2];exact Zby.2 (Ent.trans (Zlr 904 1 _ l.length rfl) (Ent.trans (Zlq 1000 1 904 1 0 l.length (l.length+1) l.length rfl rfl (by omega)) (Zby.1 (eL [(901,904)] _ _ (by refine⟨?_,?_⟩<;>(repeat' first|exact uW _|refine uK.2 ⟨(by first|rfl|(simp(disch:=omega) only[go_sem,simprocAttr,inL,hT,bPV,lI,Ak,jZ];first|done|omega|(congr 1;done))),?_⟩);done)))))
           ·omega
      ·have:v=m.length:=by omega
       subst this;rw[hend];simp only[bPV,lI];refine kw1 kO kc0 kc0 ?_;refine⟨_,Zby.1 (eL [(2000,901)] [] [(1000, .cells [.d (Zae m), .ref 2000 1 0 l.length l.length, .d (Zbe be), .int ke]),(1001, .gone),(2000, .row 1 (l.map Zam))] (by constructor<;>(repeat' first|exact uW _|refine uK.2 ⟨rfl,?_⟩);done)),?_⟩;exact⟨⟨[],rfl,trivial⟩,uK.2 ⟨rfl,uK.2 ⟨rfl,uK.2 ⟨rfl,uW _⟩⟩⟩⟩
  ·exact Zre m (f+1) l st cost rest hi (by omega) hsh (by rw[Go.Bd.ext_foldE,if_pos hsh])
end Go.Proofs.YtjjbhjnpeenbkaaGreatDoor
namespace Go.Proofs.YtjjbhjnpeenbkaaGreatDoor
open Go Go.PS Go.Proofs
open Go.Bd (sm Zaq Zbs low Part Zbw Zbl Zb7 ZbG ZcP Zdi Zdp Zfu)
set_option maxRecDepth 100000
attribute [local irreducible] Zad wpG Zaa Zag
theorem Zym (m:List (List Int)):Zb7 (Zak m) m.length m.length [] 0 (low (Zak m) m.length []) none=some (Zc3 m):=by
 have h:=Go.Bd.ext_best (Zak m) m.length [] (Zkp _) none;rw[ZmX]at h;exact h
theorem ZpH (m:List (List Int)):Zaa Tryz.prog 110 [Zae m] (if okM m then .tup [Zbe (Zc3 m).1, .int (Zc3 m).2, .int 0]else .tup [.sl [], .int 0, .int 1]):=by
 have hv:=ZjE m;rcases h:okM m with _|_<;>rw[h]at hv
 ·rw[if_neg (by decide)];refine kE Tryz.func110 ?_;intro hat B X w0;refine kw1 kO kc0 (kc1 hv) ?_;exact⟨_,rfl,Zcm rfl,Zai rfl,Zai rfl,trivial⟩
 ·rw[if_pos rfl];obtain⟨hs,h8⟩:=Zom h;have hlo:=ZvS m h;have hb:0<=low (Zak m) m.length []/\low (Zak m) m.length []<=64000000:=by
   rw[ZsF];have:=ZsD hs h8 m.length (uJ _);omega
  have he:=Zyn m hs h8 m.length [] (Zkp _) none 0 (low (Zak m) m.length []) ⟨λ s hs=>(by cases hs), .inr rfl,by omega,by simp,by simp only[uY];omega,by omega⟩;rw[ZfE,Zym]at he;simp only[bPV,lI,uY,yH]at he;refine kE Tryz.func110 ?_;intro hat B X w0
  repeat' first|refine ZbQ rfl ?_|refine Za7 ?_|refine ZtU 4 rfl (λ _=>false) ZcT ?_|(refine rc (hv) rfl ?_ ?_;(· first|rfl|simp(disch:=omega) only[go_sem,simprocAttr]))|(refine ZbY rfl rfl (λ hc=>?_) (λ hc=>?_)<;>try simp only[hcL]at hc)|(refine ZbW _ rfl rfl (λ hc=>?_) (λ hc=>?_)<;>(try simp only[hcL]at hc)<;>try omega)|simp(disch:=omega) only[go_sem,simprocAttr]|apply And.intro|omega|decide+kernel
  refine Zao _ (Zch 11 1 901 1 rfl rfl rfl) ?_;refine kw1 kO kc0 (kc2 hlo (kmc [(1000,11),(1001,901),(2000,902)] he)) ?_;exact⟨_,rfl,Zcm rfl,Zai rfl,Zai rfl,trivial⟩
end Go.Proofs.YtjjbhjnpeenbkaaGreatDoor
namespace Go.Proofs.YtjjbhjnpeenbkaaGreatDoor
open Go Go.PS Go.Proofs
open Go.Bd (ix ZdS ZeA ZcQ ZbL Zji)
set_option maxRecDepth 100000
attribute [local irreducible] Zad wpG Zaa Zag
theorem ZnS {l:List Int}{v:Int}(h:v∈l):ix l v=((l.idxOf v:Nat):Int):=by rw[ix,if_pos h]
theorem ZdV {l:List (List Int)}{k:Nat}{y:List Int}(h:l[k]? =some y):Zaw l k=y:=by rw[Zaw,h];rfl
theorem Zi2 {l:List (List Int)}{k:Nat}(h:l.length<=k):Zaw l k=[]:=by rw[Zaw,uN h];rfl
def okW (a:Lv)(w:Int):Bool:=Zar a&&decide (0<=w/\w<=1000)
def ZlB (a:Lv)(old:List (List Int))(k:Nat):Int:=ZaK (λ i=>(ZdS (Zaw old i) (Zaw a.2.1 i):Int)) k
def ZgY (a:Lv)(old:List (List Int))(w:Int):Int:=if okW a w then Zbc a+w*ZlB a old a.2.1.length else -1
theorem Zsd {a:Lv}(h:Zar a=true)(k:Nat):(Zaw a.2.1 k).length<=512:=by
 obtain⟨t1,t2⟩:=ZcV h;rcases uE k a.2.1.length with hlt|hge
 ·obtain⟨y,hy⟩:=Zac hlt;rw[ZdV hy];have:=Zdq (uA hy);omega
 ·rw[Zi2 hge];simp
def Zbb (g:Nat->Int)(n:Nat):List Int:=(List.range n).map g
def ZcO (f g:Nat->Int)(n b:Nat):List Int:=Zbb (λ v=>if v<b then g v else f v) n
theorem ZeG (g:Nat->Int)(n:Nat):(Zbb g n).length=n:=by simp[Zbb]
theorem Zf9 {g:Nat->Int}{n v:Nat}(h:v<n):(Zbb g n)[v]? =some (g v):=by simp[Zbb,h]
theorem Zhl {f g:Nat->Int}{n:Nat}(h:∀v,v<n->f v=g v):Zbb f n=Zbb g n:=yM λ v hv=>h v (uZ.1 hv)
theorem Zkd (f g:Nat->Int)(n b:Nat):(ZcO f g n b).length=n:=ZeG _ _
theorem ZsR (f g:Nat->Int)(n:Nat):ZcO f g n 0=Zbb f n:=Zhl λ v _=>if_neg (by omega)
theorem ZsO (f g:Nat->Int)(n:Nat):ZcO f g n n=Zbb g n:=Zhl λ v hv=>if_pos hv
theorem ZsP {f g:Nat->Int}{n b:Nat}(h:b<n):(ZcO f g n b)[b]? =some (f b):=by rw[ZcO,Zf9 h,if_neg (by omega)]
theorem ZsQ {f g:Nat->Int}{n b:Nat}(h:b<n):(ZcO f g n b).set b (g b)=ZcO f g n (b+1):=by
 refine qA λ v=>?_
 rw[qL,Zkd];by_cases c:b=v
 ·subst c;rw[if_pos rfl,if_pos h,ZcO,Zf9 h,if_pos (by omega)]
 ·rw[if_neg c];by_cases c2:v<n
  ·rw[ZcO,ZcO,Zf9 c2,Zf9 c2];by_cases c3:v<b
   ·rw[if_pos c3,if_pos (by omega)]
   ·rw[if_neg c3,if_neg (by omega)]
  ·rw[uN (by rw[Zkd];omega),uN (by rw[Zkd];omega)]
theorem Zuj (n:Nat):List.replicate n (D.int 0)=(Zbb (λ _=>0) n).map D.int:=by
 rw[Zbb,gR];refine qA λ v=>?_
 by_cases c:v<n<;>simp[gH,c]
def Zjt (old y:List Int)(w:Int)(u v:Nat):Int:=if 0<=ix old (at0 y v)/\ix old (at0 y v)<ix old (at0 y u)then w else 0
def Ze4 (i:Nat)(t:Nat):Int:=if t=0 then(i:Int)-1 else(i:Int)+1
def ZdI (a:Lv)(old y:List Int)(w:Int)(i:Nat):Nat->Nat->Nat->Int
 |0,u,v=>Zjt old y w u v
 |t+1,u,v=>ZdI a old y w i t u v+Zak (ZaU a i (Ze4 i t)) u v
def sqM (g:Nat->Nat->Int)(n:Nat):List (List Int):=(List.range n).map λ u=>Zbb (g u) n
def stM (a:Lv)(old y:List Int)(w:Int)(i:Nat):List (List Int):=sqM (ZdI a old y w i 2) y.length
theorem ZqE {m:List (List Int)}(h:Sq m)(u v:Nat):0<=Zak m u v/\Zak m u v<=1000000:=by
 by_cases hu:u<m.length
 ·by_cases hv:v<m.length
  ·obtain⟨_,_,_,_,h1,h2⟩:=h.get hu hv;exact⟨h1,h2⟩
  ·obtain⟨p,hp⟩:=Zac hu;have:=h.row p (uA hp);rw[Zak,ZdV hp,at0,uM,uN (by omega)];decide
 ·rw[Zak,Zi2 (by omega)];simp[at0]
theorem ZkV (a:Lv)(old y:List Int){w:Int}(hw:0<=w/\w<=1000)(i:Nat):∀t u v,0<=ZdI a old y w i t u v/\ZdI a old y w i t u v<=1000+1000000*t
 |0,u,v=>by
  rw[ZdI,Zjt];split<;>omega
 |t+1,u,v=>by
  have ih:=ZkV a old y hw i t u v;have:=ZqE (ZkP a i (Ze4 i t)) u v;rw[ZdI];omega
end Go.Proofs.YtjjbhjnpeenbkaaGreatDoor
namespace Go.Proofs.YtjjbhjnpeenbkaaGreatDoor
open Go Go.PS Go.Proofs
open Go.Bd (ix ZdS ZeA ZcQ Zaq ZgL Zpc Zi0 Part Zbw)
theorem Zxf {g:Nat->Nat->Int}{n u v:Nat}(hu:u<n)(hv:v<n):Zak (sqM g n) u v=g u v:=by
 rw[Zak,sqM,Zaw,uI,yR hu];simp only[qB,yN];rw[at0,uM,Zf9 hv];rfl
theorem Zmi (a:Lv)(old y:List Int)(w:Int)(i:Nat):(stM a old y w i).length=y.length:=by simp[stM,sqM]
def yG (y:List Int)(k:Nat):Int:=(y[k]?).getD 0
theorem ZFC (old y:List Int)(w:Int)(u v:Nat):Zjt old y w u v=w*Zi0 old (yG y) u v:=by
 have e:∀k:Nat,at0 y k=yG y k:=λ k=>by rw[at0,uM];rfl
 rw[Zjt,Zi0,e,e];by_cases h1:yG y u∈old<;>by_cases h2:yG y v∈old
 ·rw[ZnS h1,ZnS h2];by_cases h3:old.idxOf (yG y v)<old.idxOf (yG y u)
  ·rw[if_pos ⟨by omega,by omega⟩,if_pos ⟨h1,h2,h3⟩,Int.mul_one]
  ·rw[if_neg (λ h=>h3 (by omega)),if_neg (λ h=>h3 h.2.2),By]
 ·rw[if_neg (λ h=>by
   have:=h.1;rw[ix,if_neg h2]at this;omega),if_neg (λ h=>h2 h.2.1),By]
 ·rw[if_neg (λ h=>by
   have:=h.2;rw[ZnS h2,ix,if_neg h1]at this;omega),if_neg (λ h=>h1 h.1),By]
 ·rw[if_neg (λ h=>by
   have:=h.1;rw[ix,if_neg h2]at this;omega),if_neg (λ h=>h1 h.1),By]
theorem Zwc (a:Lv)(old y:List Int)(w:Int)(i:Nat)(u v:Nat):ZdI a old y w i 2 u v=w*Zi0 old (yG y) u v+ZhT a i u v:=by
 rw[<-ZFC];show Zjt old y w u v+Zak (ZaU a i ((i:Int)-1)) u v+Zak (ZaU a i ((i:Int)+1)) u v=_;rw[ZhT];omega
theorem ZEy (a:Lv)(old y:List Int)(w:Int)(i:Nat){o:List Nat}(ho:Part y.length 0 o):
  Zaq (Zak (stM a old y w i)) o=w*Zaq (Zi0 old (yG y)) o+Zaq (ZhT a i) o:=by
 rw[<-Zpc,<-ZgL];refine Zpa ho.nd λ u hu v hv _=>?_
 rw[stM,Zxf (ho.lt u hu) (ho.lt v hv),Zwc]
theorem Zj5 {a:Lv}(hv:Zar a=true){i:Nat}{y:List Int}(hy:a.2.1[i]? =some y):y.Nodup:=
 (jC.1 (Zfj hv)).1 y (uA hy)
theorem ZoD {y:List Int}{o:List Nat}(hn:y.Nodup)(ho:Part y.length 0 o):(ZaO y o).Perm y:=
 (Ay (Ztv hn ho) hn).2 λ _=>Ztu ho
theorem ZCH {a:Lv}(hv:Zar a=true){i:Nat}{y:List Int}{o:List Nat}(hy:a.2.1[i]? =some y)(ho:Part y.length 0 o):Zfe a i (ZaO y o)=(Zcc a i (ZaO y o),0):=by
 have hil:=(uB.1 hy).1;rw[Zfe,if_neg (by rw[hv];decide),if_neg (by omega),uM,hy,yN,if_neg (by rw[ZuO (ZoD (Zj5 hv hy) ho)];simp)];rfl
end Go.Proofs.YtjjbhjnpeenbkaaGreatDoor
