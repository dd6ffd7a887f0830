/- Matrices of pairs: whether they are valid, sums, and lists that contain a number. -/
import Derived.Test.YtjjbhjnpeenbkaaGreatDoorCg
import Derived.Test.YtjjbhjnpeenbkaaGreatDoorPSEnd
import Derived.Test.YtjjbhjnpeenbkaaGreatDoorPSBridge
set_option linter.unusedSimpArgs false
set_option linter.unusedVariables false
set_option maxHeartbeats 16000000
namespace Go.Proofs.YtjjbhjnpeenbkaaGreatDoor
open Go Go.PS Go.Proofs
open Go.Bd (sm Zat Zbp)
set_option maxRecDepth 100000
attribute [local irreducible] Zad wpG Zaa Zah
abbrev Zao (v:Nat):D:= .int (v:Int)
abbrev Zbh (l:List Nat):D:= .sl (l.map Zao)
theorem Zzl (l:List Nat):Zbh l=Zab (l.map λ v:Nat=>(v:Int)):=by rw[Zbh,Zab,gR];rfl
theorem Zr7 (l:List Nat):∀d,d∈l.map Zao->d.cells.length=1:=ZkX Zao 1 (λ _=>rfl) l
theorem ZhZ (v:Nat):∀d,d∈[Zao v]->d.cells.length=1:=λ d hd=>by rw[uT.1 hd];rfl
theorem Zzd {l:List Nat}{v:Nat}:(v:Int)∈l.map (λ v:Nat=>(v:Int))↔v∈l:=by
 simp[uP,Int.ofNat_inj]
theorem ZAq (l:List Int)(v:Int):decide (0<=placeF l v)=decide (v∈l):=by
 rw[ZsB,qV,gK];simp
theorem ZwD (l:List Int)(v:Int):Zaa Tryz.prog 224 [Zab l, .int v] (.bool (decide (v∈l))):=by
 have h:=Zld l v;rw[<-ZAq];refine kE Tryz.func224 ?_;intro hat B X w0;refine kw1 kO kc0 (kc1 h) ?_;exact Zai rfl
theorem ZiA (l:List Nat)(v:Nat):Zaa Tryz.prog 224 [Zbh l, .int v] (.bool (decide (v∈l))):=by
 have h:=ZwD (l.map λ v:Nat=>(v:Int)) v;rw[<-Zzl,Cw.2 Zzd]at h;exact h
def ZbU (x:Int):Bool:=decide (x<0)||decide (1000000<x)
def ZhG (n:Nat)(p:List Int):Bool:=decide (p.length≠n)||p.any ZbU
def okM (m:List (List Int)):Bool:=decide (m.length<=8)&& !m.any (ZhG m.length)
theorem ZnP {m:List (List Int)}(h:okM m=true):Sq m/\m.length<=8:=by
 simp only[okM,uM,uF,yI,qA]at h;obtain⟨h1,h2⟩:=h;have hr:∀p,p∈m->p.length=m.length/\∀x,x∈p->0<=x/\x<=1000000:=λ p hp=>by
  have:=h2 p hp;simp only[ZhG,qZ,uF,not_or,Cx,qA]at this;refine⟨by omega,λ x hx=>?_⟩;have:=this.2 x hx;simp only[ZbU,qZ,Bool.or_eq_false_iff,uF,yZ,not_or]at this;omega
 exact⟨⟨by omega,λ p hp=>(hr p hp).1,λ p hp=>(hr p hp).2⟩,h1⟩
theorem ZDd {m:List (List Int)}(h:Sq m)(h8:m.length<=8):okM m=true:=by
 simp only[okM,uM,uF,yI,qA];refine⟨h8,λ p hp=>?_⟩;simp only[ZhG,qZ,uF,not_or,Cx,qA];refine⟨λ hne=>hne (h.row p hp),λ x hx=>?_⟩;have:=h.val p hp x hx;simp only[ZbU,qZ,Bool.or_eq_false_iff,uF,yZ,not_or];omega
theorem Sq.small {m:List (List Int)}(h:Sq m):Zbp (Zak m) m.length:=λ u v hu hv=>by
 obtain⟨p,_,_,_,g1,g2⟩:=h.get hu hv;exact⟨g1,g2⟩
theorem ZvA (x:Int):Zaa Tryz.prog 223 [.int x] (.bool (ZbU x)):=by
 refine kE Tryz.func223 ?_;intro hat B X w0;refine kw kO kc0 kc0 ?_
 repeat' first|exact True.intro|refine Bn.mk ?_ ?_|intro hc
 all_goals
  refine Zai ?_;simp only[ZbU, *,Ct,Bc,Dc,Db,Cb,Bool.or_false]
theorem Zpw (m:List (List Int)):Zaa Tryz.prog 178 [Zag m] (.bool (okM m)):=by
 refine kE Tryz.func178 ?_;intro hat B X w0;have hl:=ZaY 0 hat rfl;rw[uD]at hl;by_cases c8:8<m.length
 ·refine kw1 kO kc0 kc0 ?_;refine Zai ?_;rw[okM,uU (by omega)];rfl
 ·refine kw1 kO kc0 kc0 ?_;refine Zae (λ(k:Nat)=>k<=m.length/\∀(j:Nat) y,j<k->m[j]? =some y->ZhG m.length y=false) (λ k=>[(0, .d (Zag m)),(8, .d (Zag m)),(9, .int m.length),(10, .int k)]) (λ k=>[]) (λ k=>m.length-k) 0 ?_ ?_ ?_
  ·exact⟨uG _,λ j y hj=>by omega⟩
  ·exact kN kc0 []
  ·rintro k ⟨hk,hinv⟩;rcases uC k m.length with hlt|hge
   ·obtain⟨p,hp⟩:=Zac hlt;have hcf:=Zk2 p 223 ZbU ZvA;by_cases c:p.length=m.length
    ·have cI:(p.length:Int)=m.length:=by omega
     rcases hb:p.any ZbU with _|_<;>rw[hb]at hcf
     ·refine kw1 kO (kc2 hp cI) (kc1 hcf) ?_;refine⟨k+1,?_,kN kc0 [],?_⟩
      ·exact⟨by omega,Zbj hinv hp (by rw[ZhG,hb,uU (by omega)];rfl)⟩
      ·omega
     ·refine kw1 kO (kc2 hp cI) (kc1 hcf) ?_;refine Zai ?_;rw[okM,Zb0 hp (by rw[ZhG,hb,Db])];simp
    ·have cI:¬(p.length:Int)=m.length:=by omega
     refine kw1 kO (kc2 hp cI) (kc1 hcf) ?_;refine Zai ?_;rw[okM,Zb0 hp (by rw[ZhG,yB c,Dc])];simp
   ·refine kw1 kO kc0 kc0 ?_;refine Zai ?_;rw[okM,Zck λ j y hj=>hinv j y (by omega),yB (by omega)];rfl
end Go.Proofs.YtjjbhjnpeenbkaaGreatDoor
namespace Go.Proofs.YtjjbhjnpeenbkaaGreatDoor
open Go Go.PS Go.Proofs
open Go.Bd (sm Zat Zbp low Part ZbC Zbs)
set_option maxRecDepth 100000
attribute [local irreducible] Zad wpG Zaa Zah
def lwF (m:List (List Int))(k:Nat):Int:=sm (λ u=>sm (λ v=>min (Zak m u v) (Zak m v u)) u) k
theorem ZrU (m:List (List Int)):low (Zak m) m.length []=lwF m m.length:=by
 rw[low,lwF];refine Go.Bd.sm_congr _ λ u _=>Go.Bd.sm_congr _ λ v _=>?_
 rw[if_pos ⟨gP,gP⟩,Int.min_comm]
theorem ZjH (a b:Int):(if b<a then b else a)=min a b:=by omega
theorem ZrT {m:List (List Int)}(hs:Sq m)(h8:m.length<=8){u:Nat}(hu:u<m.length)(k:Nat)(hk:k<=u):0<=sm (λ v=>min (Zak m u v) (Zak m v u)) k/\sm (λ v=>min (Zak m u v) (Zak m v u)) k<=1000000*k:=
 Go.Bd.sm_bounds k λ v hv=>by
  have h1:=hs.small u v hu (by omega);have h2:=hs.small v u (by omega) hu;omega
theorem ZrS {m:List (List Int)}(hs:Sq m)(h8:m.length<=8)(k:Nat)(hk:k<=m.length):0<=lwF m k/\lwF m k<=8000000*k:=
 Go.Bd.sm_bounds k λ u hu=>by
  have:=ZrT hs h8 (u:=u) (by omega) u (uI _);omega
theorem ZuL (m:List (List Int))(h:okM m=true):Zaa Tryz.prog 180 [Zag m] (.int (low (Zak m) m.length [])):=by
 have hv:=Zpw m;rw[h]at hv;obtain⟨hs,h8⟩:=ZnP h;rw[ZrU];refine kE Tryz.func180 ?_;intro hat B X w0;refine kw1 kO kc0 (kc1 hv) ?_;refine Zae (λ(u:Nat)=>u<=m.length) (λ u=>[(0, .d (Zag m)),(3, .int (lwF m u)),(10, .int m.length),(11, .int u)]) (λ u=>[]) (λ u=>m.length-u) 0 ?_ ?_ ?_
 ·exact uG _
 ·exact eL [] _ _ (by refine⟨?_,?_⟩<;>(repeat' first|exact fmn|refine fmc ⟨(by first|rfl|(simp(disch:=omega) only[go_sem,simprocAttr,inL,lwF,sm];first|done|omega|(congr 1;done))),?_⟩);done)
 ·intro u hu;have hb:=ZrS hs h8 u hu;rcases uC u m.length with hlt|hge
  ·have e1:lwF m (u+1)=lwF m u+sm (λ v=>min (Zak m u v) (Zak m v u)) u:=rfl;refine kw1 kO kc0 kc0 ?_;refine Zae (λ(v:Nat)=>v<=u) (λ v=>[(0, .d (Zag m)),(3, .int (lwF m u+sm (λ v=>min (Zak m u v) (Zak m v u)) v)),(4, .int u),(10, .int m.length),(11, .int u),(14, .int u),(15, .int v)]) (λ v=>[]) (λ v=>u-v) 0 ?_ ?_ ?_
   ·exact uG _
   ·exact eL [] _ _ (by refine⟨?_,?_⟩<;>(repeat' first|exact fmn|refine fmc ⟨(by first|rfl|(simp(disch:=omega) only[go_sem,simprocAttr,inL,sm,jW];first|done|omega|(congr 1;done))),?_⟩);done)
   ·intro v hv;have hb2:=ZrT hs h8 hlt v hv;rcases uC v u with hlv|hgv
    ·obtain⟨p,hp,hpl,hpv,h1,h2⟩:=hs.get hlt (show v<m.length by omega);obtain⟨q,hq,hql,hqv,h3,h4⟩:=hs.get (show v<m.length by omega) hlt;have e2:sm (λ v=>min (Zak m u v) (Zak m v u)) (v+1)=sm (λ v=>min (Zak m u v) (Zak m v u)) v+min (Zak m u v) (Zak m v u):=rfl;refine kw1 kO (kc5 hp hq hpv hqv @ZjH) kc0 ?_;refine⟨v+1,?_,kN (kc2 e2 @zB) [],?_⟩
     ·omega
     ·omega
    ·have:v=u:=by omega
     subst this;refine kw1 kO kc0 kc0 ?_;refine⟨v+1,?_,kN (kc1 e1) [],?_⟩
     ·omega
     ·omega
  ·have:u=m.length:=by omega
   subst this;refine kw1 kO kc0 kc0 ?_;exact Zaf rfl
theorem Zj6 (n:Nat):Part n n []:=⟨zF,λ v hv=>absurd hv gP,by simp⟩
def Zc1 (m:List (List Int)):List Nat×Int:=(ZbC (Zak m) m.length m.length []).getD ([],0)
theorem Zmw (m:List (List Int)):ZbC (Zak m) m.length m.length []=some (Zc1 m):=by
 obtain⟨s,hs⟩:=Go.Bd.best_some (c:=Zak m) m.length [] (Zj6 _);rw[Zc1,hs];rfl
end Go.Proofs.YtjjbhjnpeenbkaaGreatDoor
namespace Go.Proofs.YtjjbhjnpeenbkaaGreatDoor
open Go Go.PS Go.Proofs
open Go.Bd (sm Zat Zbp low Part ZbC Zbs Zca ZbI Zda Zc8 Zdk)
set_option maxRecDepth 100000
attribute [local irreducible] Zad wpG Zaa Zah
theorem Zws (l:List Nat)(hn:l.length<=1000000):Zah Tryz.prog 214 [.ref 1000 1 0 l.length l.length] [(1000, .row 1 (l.map Zao)),(2000, .dead)] (.ref 2000 1 0 l.length l.length) [(1000, .row 1 (l.map Zao)),(2000, .row 1 (l.map Zao))]:=by
 rcases jC (l=[])with rfl|hl
 ·refine kM Tryz.func214 ?_;intro B X w0;refine Zdi ?_;refine kw1 kO kc0 kc0 ?_;refine Zkb 4 rfl ?_;intro b;cases b
  ·repeat' first|refine ZbH rfl ?_|refine Za0 ?_|refine ZgH (Nat.beq 5) ZcE ?_|(refine ZbM rfl rfl (λ hc=>?_) (λ hc=>?_)<;>try simp only[hcL]at hc)|(refine ZbL _ rfl rfl (λ hc=>?_) (λ hc=>?_)<;>(try simp only[hcL]at hc)<;>try omega)|simp(disch:=omega) only[go_sem,simprocAttr,roomy]|apply And.intro|omega|decide+kernel
   refine⟨_,ZbA.1 (kN (L:=[(2, .ref 2000 1 0 0 0)]) (M:=[(1000, .row 1 []),(2000, .row 1 [])]) kc0 [(2000,7)]),?_⟩;exact⟨rfl,uO.2 ⟨rfl,uO.2 ⟨rfl,yC _⟩⟩⟩
  ·refine kw1 kO kc0 kc0 ?_;refine⟨_,Ent.trans (Zc3 2 7 1 rfl rfl) (ZbA.1 (eL [(2000,7)] [(2, .ref 2000 1 0 0 0)] [(1000, .row 1 []),(2000, .row 1 [])] (by constructor<;>(repeat' first|exact yC _|refine uO.2 ⟨rfl,?_⟩)))),?_⟩;exact⟨rfl,uO.2 ⟨rfl,uO.2 ⟨rfl,yC _⟩⟩⟩
 ·have he:(l.map Zao).isEmpty=false:=by simpa using hl
  have hpos:0<l.length:=Ae.2 hl;have hne:l.length≠0:=by omega
  refine kM Tryz.func214 ?_;intro B X w0;refine Zdi ?_
  repeat' first|refine ZbH rfl ?_|refine Za0 ?_|refine ZgH (Nat.beq 5) ZcE ?_|(refine ZbM rfl rfl (λ hc=>?_) (λ hc=>?_)<;>try simp only[hcL]at hc)|(refine ZbL _ rfl rfl (λ hc=>?_) (λ hc=>?_)<;>(try simp only[hcL]at hc)<;>try omega)|simp(disch:=omega) only[go_sem,simprocAttr,he,roomy,Zan,hne]|exact Zr7 l|apply And.intro|omega|decide+kernel
  refine⟨_,ZbA.1 (kN (L:=[(2, .ref 2000 1 0 l.length l.length)]) (M:=[(1000, .row 1 (l.map Zao)),(2000, .row 1 (l.map Zao))]) kc0 [(2000,7)]),?_⟩;exact⟨rfl,uO.2 ⟨rfl,uO.2 ⟨rfl,yC _⟩⟩⟩
def bPV :Option (List Nat×Int)->PV
 |none=> .nilS
 |some s=> .d (Zbh s.1)
def lI :Option (List Nat×Int)->Int
 |none=>0
 |some s=>s.2
theorem ZqA (c:Nat->Nat->Int)(n:Nat):∀(f:Nat) (l:List Nat),Part n f l->∀(st:Option (List Nat×Int)) (cost rest:Int),(∀s,st=some s->s.1.length=n)->∀s,Zca c n f l cost rest st=some s->s.1.length=n
 |0,l,hp,st,cost,rest,h,s,hs=>by
  rw[Zca]at hs;split at hs
  ·exact h s hs
  ·cases hs;have:=hp.len;dsimp only;omega
 |f+1,l,hp,st,cost,rest,h,s,hs=>by
  rw[Go.Bd.ext_foldE]at hs;split at hs
  ·exact h s hs
  ·have key:∀k,k<=n->∀s,ZbI c n f l cost rest st k=some s->s.1.length=n:=by
    intro k
    induction k with
    |zero=>intro _ s hs;exact h s hs
    |succ k ih=>
     intro hk s hs;by_cases hm:k∈l
     ·rw[Go.Bd.foldE_in c n hm]at hs;exact ih (by omega) s hs
     ·rw[Go.Bd.foldE_out c n hm]at hs;exact ZqA c n f (l++[k]) (hp.snoc (by omega) hm) _ _ _ (ih (by omega)) s hs
   exact key n (uI _) s hs
theorem ZxC {c:Nat->Nat->Int}{n f:Nat}{l:List Nat}(hp:Part n (f+1) l){st:Option (List Nat×Int)}{cost rest:Int}(h:∀s,st=some s->s.1.length=n):∀k,k<=n->∀s,ZbI c n f l cost rest st k=some s->s.1.length=n:=by
 intro k
 induction k with
 |zero=>intro _ s hs;exact h s hs
 |succ k ih=>
  intro hk s hs;by_cases hm:k∈l
  ·rw[Go.Bd.foldE_in c n hm]at hs;exact ih (by omega) s hs
  ·rw[Go.Bd.foldE_out c n hm]at hs;exact ZqA c n f (l++[k]) (hp.snoc (by omega) hm) _ _ _ (ih (by omega)) s hs
def ZfD (m:List (List Int))(f:Nat)(l:List Nat)(st:Option (List Nat×Int))(cost rest:Int):Prop:=
 Zah Tryz.prog 179 [.ptr 1000 0 0 0, .int cost, .int rest] [(1000, .cells [.d (Zag m), .ref 1001 1 0 l.length l.length,bPV st, .int (lI st)]),(1001, .row 1 (l.map Zao)),(2000, .dead)] (.tup [])
  [(1000, .cells [.d (Zag m), .ref 2000 1 0 l.length l.length,bPV (Zca (Zak m) m.length f l cost rest st), .int (lI (Zca (Zak m) m.length f l cost rest st))]),(1001, .gone),(2000, .row 1 (l.map Zao))]
structure ExtIn (m:List (List Int))(l:List Nat)(st:Option (List Nat×Int))(cost rest:Int):Prop where
 len:∀s,st=some s->s.1.length=m.length
 pos:0<m.length\/st=none
 c0:0<=cost
 c1:cost<=8000000*l.length
 r0:-8000000*l.length<=rest
 r1:rest<=64000000
theorem ZqB (m:List (List Int))(f:Nat)(l:List Nat)(st:Option (List Nat×Int))(cost rest:Int)(hi:ExtIn m l st cost rest)(hl:l.length<=8)(hsh:Zdk st (cost+rest)=true)(he:Zca (Zak m) m.length f l cost rest st=st):ZfD m f l st cost rest:=by
 rw[ZfD,he];rcases st with _|⟨b,k⟩
 ·cases hsh
 ·have hk:k<=cost+rest:=by simpa[Zdk]using hsh
  have hbl:=hi.len _ rfl;have hpos:0<m.length:=hi.pos.resolve_right (by simp);have hne:(b.map Zao).isEmpty=false:=by
   cases b with
   |nil=>simp at hbl;omega
   |cons x b=>rfl
  obtain⟨_,_,c0,c1,r0,r1⟩:=hi;simp only[bPV,lI];refine kM Tryz.func179 ?_;intro B X w0;refine Zdi ?_;refine kw1 kO (kc2 hne hk) kc0 ?_;refine⟨_,Zjw 1001 2000 rfl (by decide) (by decide),?_⟩;exact⟨⟨[],rfl,trivial⟩,uO.2 ⟨by simp[mvG,upd,Zas,Ob.ren,PV.ren],uO.2 ⟨rfl,uO.2 ⟨by simp[mvG,upd,Zas,Ob.ren,PV.ren],yC _⟩⟩⟩⟩
theorem Zxb (m:List (List Int))(hs:Sq m)(h8:m.length<=8)(l:List Nat)(hp:Part m.length 0 l)(st:Option (List Nat×Int))(cost rest:Int)(hi:ExtIn m l st cost rest)(hsh:Zdk st (cost+rest)=false):ZfD m 0 l st cost rest:=by
 have hll:=hp.len;have hlI:(l.length:Int)=m.length:=by omega
 have he:Zca (Zak m) m.length 0 l cost rest st=some (l,cost):=by rw[Zca,if_neg (by rw[hsh];decide)]
 rw[ZfD,he];have hcl:=Zws l (by omega);rcases st with _|⟨b,k⟩
 ·obtain⟨_,_,c0,c1,r0,r1⟩:=hi;simp only[bPV,lI];refine kM Tryz.func179 ?_;intro B X w0;refine Zdi ?_;refine kw1 kO (kc1 hlI) (kc1 (kmc [(1000,1001),(2000,905)] hcl)) ?_;refine⟨_,Ent.trans (ZbA.1 (eL [] [] [(1000, .cells [.d (Zag m), .ref 1001 1 0 l.length l.length, .ref 905 1 0 l.length l.length, .int cost]),(1001, .row 1 (l.map Zao)),(905, .row 1 (l.map Zao))] (by constructor<;>(repeat' first|exact yC _|refine uO.2 ⟨rfl,?_⟩)))) (Ent.trans (Zc2 905 1 (l.map Zao) rfl (ZcS _ rfl) (by decide)) (Zjw 1001 2000 rfl (by decide) (by decide))),?_⟩;exact⟨⟨[],rfl,trivial⟩,uO.2 ⟨by simp[mvG,upd,Zas,Ob.ren,PV.ren,Zgq,Ob.frz,PV.frzL,PV.frz,Zan,hlI],uO.2 ⟨rfl,uO.2 ⟨by simp[mvG,upd,Zas,Ob.ren,PV.ren,Zgq,Ob.frz],yC _⟩⟩⟩⟩
 ·have hk:¬k<=cost+rest:=by simpa[Zdk]using hsh
  have hbl:=hi.len _ rfl;have hpos:0<m.length:=hi.pos.resolve_right (by simp);have hne:(b.map Zao).isEmpty=false:=by
   cases b with
   |nil=>simp at hbl;omega
   |cons x b=>rfl
  obtain⟨_,_,c0,c1,r0,r1⟩:=hi;simp only[bPV,lI];refine kM Tryz.func179 ?_;intro B X w0;refine Zdi ?_;refine kw1 kO (kc3 hne hk hlI) (kc1 (kmc [(1000,1001),(2000,905)] hcl)) ?_;refine⟨_,Ent.trans (ZbA.1 (eL [] [] [(1000, .cells [.d (Zag m), .ref 1001 1 0 l.length l.length, .ref 905 1 0 l.length l.length, .int cost]),(1001, .row 1 (l.map Zao)),(905, .row 1 (l.map Zao))] (by constructor<;>(repeat' first|exact yC _|refine uO.2 ⟨rfl,?_⟩)))) (Ent.trans (Zc2 905 1 (l.map Zao) rfl (ZcS _ rfl) (by decide)) (Zjw 1001 2000 rfl (by decide) (by decide))),?_⟩;exact⟨⟨[],rfl,trivial⟩,uO.2 ⟨by simp[mvG,upd,Zas,Ob.ren,PV.ren,Zgq,Ob.frz,PV.frzL,PV.frz,Zan,hlI],uO.2 ⟨rfl,uO.2 ⟨by simp[mvG,upd,Zas,Ob.ren,PV.ren,Zgq,Ob.frz],yC _⟩⟩⟩⟩
def ZbQ (m:List (List Int))(l:List Nat)(v k:Nat):Int:=sm (λ w=>if w≠v/\w∉l then Zak m v w else 0) k
def ZbO (m:List (List Int))(l:List Nat)(v k:Nat):Int:=sm (λ w=>if w≠v/\w∉l then min (Zak m v w) (Zak m w v)else 0) k
theorem Zsq {ids:List Nat}{S:St}{o o2:Nat}(h1:o∈ids)(h2:o2<1000\/2000<=o2)(h:Zb6 ids S.objs):
  Zb6 ids (λ x=>if x=o then .gone else if x=o2 then(S.objs o).ren (mvG o o2)else(S.objs x).ren (mvG o o2)):=λ i a b hi=>by
 dsimp only;rw[if_neg (λ e:i=o=>hi (e▸h1)),if_neg (by omega),h i a b hi];rfl
theorem Zg6 {m:List (List Int)}{l:List Nat}{v k:Nat}(h:¬(k≠v/\k∉l)):ZbQ m l v (k+1)=ZbQ m l v k:=by rw[ZbQ,sm,if_neg h,jW];rfl
theorem Zln {m:List (List Int)}{l:List Nat}{v k:Nat}(h:k≠v/\k∉l):ZbQ m l v (k+1)=ZbQ m l v k+Zak m v k:=by rw[ZbQ,sm,if_pos h];rfl
theorem Zg5 {m:List (List Int)}{l:List Nat}{v k:Nat}(h:¬(k≠v/\k∉l)):ZbO m l v (k+1)=ZbO m l v k:=by rw[ZbO,sm,if_neg h,jW];rfl
theorem Zlg {m:List (List Int)}{l:List Nat}{v k:Nat}(h:k≠v/\k∉l):ZbO m l v (k+1)=ZbO m l v k+min (Zak m v k) (Zak m k v):=by rw[ZbO,sm,if_pos h];rfl
theorem Zxa (m:List (List Int))(hs:Sq m)(h8:m.length<=8):∀(f:Nat) (l:List Nat),Part m.length f l->∀(st:Option (List Nat×Int)) (cost rest:Int),ExtIn m l st cost rest->ZfD m f l st cost rest:=by
 intro f
 induction f with
 |zero=>
  intro l hp st cost rest hi;have hll:=hp.len;rcases hsh:Zdk st (cost+rest)with _|_
  ·exact Zxb m hs h8 l hp st cost rest hi hsh
  ·exact ZqB m 0 l st cost rest hi (by omega) hsh (by rw[Zca,if_pos hsh])
 |succ f IH=>
  intro l hp st cost rest hi;have hll:=hp.len;rcases hsh:Zdk st (cost+rest)with _|_
  ·rw[ZfD,Go.Bd.ext_foldE,if_neg (by rw[hsh];decide)];have hlen:=ZxC (cost:=cost) (rest:=rest) (c:=Zak m) hp hi.len;have hIH:∀v,v<m.length->v∉l->ZfD m f (l++[v]) (ZbI (Zak m) m.length f l cost rest st v) (cost+ZbQ m l v m.length) (rest-ZbO m l v m.length):=λ v hv hm=>by
    have b1:0<=ZbQ m l v m.length/\ZbQ m l v m.length<=1000000*m.length:=Go.Bd.more_bounds hs.small l hv m.length (uI _);have b2:0<=ZbO m l v m.length/\ZbO m l v m.length<=1000000*m.length:=Go.Bd.less_bounds hs.small l hv m.length (uI _);have b3:=hi.c0;have b4:=hi.c1;have b5:=hi.r0;have b6:=hi.r1;refine IH _ (hp.snoc hv hm) _ _ _ ⟨hlen v (by omega), .inl (by omega),by omega,?_,?_,by omega⟩
    ·rw[uH,qQ,zH];simp only[uX,uW];omega
    ·rw[uH,qQ,zH];simp only[uX,uW];omega
   obtain⟨st0,hst0⟩:∃st0,st=st0:=⟨_,rfl⟩;rw[hst0]at hlen hIH|-;obtain⟨hbl,hpos,c0,c1,r0,r1⟩:=hi;obtain⟨⟨be,ke⟩,hend⟩:∃s,ZbI (Zak m) m.length f l cost rest st0 m.length=some s:=by
    obtain⟨s,hx⟩:=Go.Bd.ext_some (c:=Zak m) (f+1) l hp cost rest st0;rw[Go.Bd.ext_foldE,if_neg (by rw[<-hst0,hsh];decide)]at hx;exact⟨s,hx⟩
   rw[hend]
   all_goals
    rw[<-hst0];rcases st with _|⟨b,k⟩
    all_goals simp only[bPV,lI]
    all_goals
     refine kM Tryz.func179 ?_
    all_goals intro B X w0
    all_goals refine Zdi ?_
    ·have hnl:¬(l.length:Int)=m.length:=by omega
     refine kw1 kO (kc1 hnl) kc0 ?_;refine Zae (λ(v:Nat)=>v<=m.length) (λ v=>[(0, .ptr 1000 0 0 0),(1, .int cost),(2, .int rest),(51, .d (Zag m)),(52, .int m.length),(53, .int v)]) (λ v=>[(1000, .cells [.d (Zag m), .ref 901 1 0 l.length l.length,bPV (ZbI (Zak m) m.length f l cost rest st0 v), .int (lI (ZbI (Zak m) m.length f l cost rest st0 v))]),(1001, .gone),(901, .row 1 (l.map Zao))]) (λ v=>m.length-v) 0 ?_ ?_ ?_
     ·exact uG _
     ·try dsimp only
      rw[Go.Bd.foldE_zero,<-hst0];exact ZbA.2 (Ent.trans (Zjw 1001 901 rfl (by decide) (by decide)) (ZbA.1 (eL [] _ _ (by refine⟨?_,?_⟩<;>(repeat' first|exact yC _|refine uO.2 ⟨(by first|rfl|(simp(disch:=omega) only[go_sem,simprocAttr,inL,bPV,lI];first|done|omega|(congr 1;done))),?_⟩);done) (h7:=Zsq (by simp) (by decide) (by repeat' first|exact ZgD|exact ZgE _ rfl|refine ZgF rfl ?_)))))
     ·intro v hv;have hlv:=hlen v hv;rcases uC v m.length with hlt|hge
      ·have hin:=ZiA l v;by_cases hm:v∈l
       ·rw[yB hm]at hin;have e1:=Go.Bd.foldE_in (Zak m) m.length (f:=f) (cost:=cost) (rest:=rest) (st:=st0) hm;rcases hst:ZbI (Zak m) m.length f l cost rest st0 v with _|⟨b0,k0⟩<;>rw[hst]at e1<;>simp only[bPV,lI]
        all_goals
         refine kw1 kO (kc1 @Zan) (kc1 hin) ?_;refine⟨v+1,?_,?_,?_⟩
         ·omega
         ·try dsimp only
          rw[e1];exact kN (kc2 @bPV.eq_1 @lI.eq_1) []
         ·omega
       ·rw[uU hm]at hin;have e1:=Go.Bd.foldE_out (Zak m) m.length (f:=f) (cost:=cost) (rest:=rest) (st:=st0) hm;have ih:=hIH v hlt hm;have en:(((l.length+1:Nat):Int)-1).toNat=l.length:=by omega
        have hT:(l.map Zao++[Zao v]).take l.length=l.map Zao:=List.take_left' (uD ..);rcases hst:ZbI (Zak m) m.length f l cost rest st0 v with _|⟨b0,k0⟩
        all_goals
         rw[hst]at e1 ih;have e3:ZbI (Zak m) m.length f l cost rest st0 (v+1)=Zca (Zak m) m.length f (l++[v]) (cost+ZbQ m l v m.length) (rest-ZbO m l v m.length) _:=e1;rw[ZfD,<-e3]at ih;obtain⟨⟨b2,k2⟩,hst2⟩:∃s,ZbI (Zak m) m.length f l cost rest st0 (v+1)=some s:=by
          rw[e3];exact Go.Bd.ext_some f (l++[v]) (hp.snoc hlt hm) _ _ _
         rw[hst2]at ih e3;simp only[bPV,lI,uH,uX,uW,uR,uS,yE,qM]at ih|-
        ·refine kw1 kO (kc1 @Zan) (kc1 hin) ?_;refine Zae (λ(w:Nat)=>w<=m.length) (λ w=>[(0, .ptr 1000 0 0 0),(1, .int cost),(2, .int rest),(6, .int v),(7, .int (ZbQ m l v w)),(8, .int (ZbO m l v w)),(51, .d (Zag m)),(52, .int m.length),(53, .int v),(65, .d (Zag m)),(66, .int m.length),(67, .int w)]) (λ w=>[(1000, .cells [.d (Zag m), .ref 901 1 0 l.length l.length, .nilS, .int 0]),(1001, .gone),(901, .row 1 (l.map Zao))]) (λ w=>m.length-w) 0 ?_ ?_ ?_
         ·exact uG _
         ·exact eL [] _ _ (by refine⟨?_,?_⟩<;>(repeat' first|exact fmn|refine fmc ⟨(by first|rfl|(simp(disch:=omega) only[go_sem,simprocAttr,inL,ZbQ,ZbO,sm];first|done|omega|(congr 1;done))),?_⟩);done)
         ·intro w hw;have b1:0<=ZbQ m l v w/\ZbQ m l v w<=1000000*w:=Go.Bd.more_bounds hs.small l hlt w hw;have b2:0<=ZbO m l v w/\ZbO m l v w<=1000000*w:=Go.Bd.less_bounds hs.small l hlt w hw;rcases uC w m.length with hlw|hgw
          ·obtain⟨p,hp1,hp2,hp3,hp4,hp5⟩:=hs.get hlt hlw;obtain⟨q,hq1,hq2,hq3,hq4,hq5⟩:=hs.get hlw hlt;have hcw:=ZiA l w;by_cases d1:w=v
           ·have e1:=Zg6 (m:=m) (l:=l) (v:=v) (k:=w) (λ h=>h.1 d1);have e2:=Zg5 (m:=m) (l:=l) (v:=v) (k:=w) (λ h=>h.1 d1);have d1I:(w:Int)=v:=by omega
            refine kw1 kO (kc1 d1I) kc0 ?_;refine⟨w+1,?_,kN (kc2 e1 e2) [],?_⟩
            ·omega
            ·omega
           ·have d1I:¬(w:Int)=v:=by omega
            by_cases d2:w∈l
            ·have e1:=Zg6 (m:=m) (l:=l) (v:=v) (k:=w) (λ h=>h.2 d2);have e2:=Zg5 (m:=m) (l:=l) (v:=v) (k:=w) (λ h=>h.2 d2);rw[yB d2]at hcw;refine kw1 kO (kc2 d1I @Zan) (kc1 hcw) ?_;refine⟨w+1,?_,kN (kc2 e1 e2) [],?_⟩
             ·omega
             ·omega
            ·have e1:=Zln (m:=m) (l:=l) (v:=v) (k:=w) ⟨d1,d2⟩;have e2:=Zlg (m:=m) (l:=l) (v:=v) (k:=w) ⟨d1,d2⟩;rw[uU d2]at hcw;refine kw1 kO (kc7 d1I @Zan hp1 hp3 hq1 hq3 @ZjH) (kc1 hcw) ?_;refine⟨w+1,?_,kN (kc2 e1 e2) [],?_⟩
             ·omega
             ·omega
          ·have:w=m.length:=by omega
           subst this
           repeat' first|refine ZbH rfl ?_|refine Za0 ?_|refine wR ?_|refine rcM [(1001,125),(2000,904)] (ih) rfl ?_|(refine ZbM rfl rfl (λ hc=>?_) (λ hc=>?_)<;>try simp only[hcL]at hc)|(refine ZbL _ rfl rfl (λ hc=>?_) (λ hc=>?_)<;>(try simp only[hcL]at hc)<;>try omega)|simp(disch:=omega) only[go_sem,simprocAttr,roomy,Zan,en,zN]|exact ZhZ v|apply And.intro|omega|decide+kernel
           refine⟨v+1,?_,?_,?_⟩
           ·omega
           ·try dsimp only
            rw[hst2];exact ZbA.2 (Ent.trans (Zk6 904 1 _ l.length rfl) (Ent.trans (Zk5 1000 1 904 1 0 l.length (l.length+1) l.length rfl rfl (by omega)) (ZbA.1 (eL [(901,904)] _ _ (by refine⟨?_,?_⟩<;>(repeat' first|exact yC _|refine uO.2 ⟨(by first|rfl|(simp(disch:=omega) only[go_sem,simprocAttr,inL,hT,bPV,lI,Aj,kJ];first|done|omega|(congr 1;done))),?_⟩);done)))))
           ·omega
        ·refine kw1 kO (kc1 @Zan) (kc1 hin) ?_;refine Zae (λ(w:Nat)=>w<=m.length) (λ w=>[(0, .ptr 1000 0 0 0),(1, .int cost),(2, .int rest),(6, .int v),(7, .int (ZbQ m l v w)),(8, .int (ZbO m l v w)),(51, .d (Zag m)),(52, .int m.length),(53, .int v),(65, .d (Zag m)),(66, .int m.length),(67, .int w)]) (λ w=>[(1000, .cells [.d (Zag m), .ref 901 1 0 l.length l.length, .d (Zbh b0), .int k0]),(1001, .gone),(901, .row 1 (l.map Zao))]) (λ w=>m.length-w) 0 ?_ ?_ ?_
         ·exact uG _
         ·exact eL [] _ _ (by refine⟨?_,?_⟩<;>(repeat' first|exact fmn|refine fmc ⟨(by first|rfl|(simp(disch:=omega) only[go_sem,simprocAttr,inL,ZbQ,ZbO,sm];first|done|omega|(congr 1;done))),?_⟩);done)
         ·intro w hw;have b1:0<=ZbQ m l v w/\ZbQ m l v w<=1000000*w:=Go.Bd.more_bounds hs.small l hlt w hw;have b2:0<=ZbO m l v w/\ZbO m l v w<=1000000*w:=Go.Bd.less_bounds hs.small l hlt w hw;rcases uC w m.length with hlw|hgw
          ·obtain⟨p,hp1,hp2,hp3,hp4,hp5⟩:=hs.get hlt hlw;obtain⟨q,hq1,hq2,hq3,hq4,hq5⟩:=hs.get hlw hlt;have hcw:=ZiA l w;by_cases d1:w=v
           ·have e1:=Zg6 (m:=m) (l:=l) (v:=v) (k:=w) (λ h=>h.1 d1);have e2:=Zg5 (m:=m) (l:=l) (v:=v) (k:=w) (λ h=>h.1 d1);have d1I:(w:Int)=v:=by omega
            refine kw1 kO (kc1 d1I) kc0 ?_;refine⟨w+1,?_,kN (kc2 e1 e2) [],?_⟩
            ·omega
            ·omega
           ·have d1I:¬(w:Int)=v:=by omega
            by_cases d2:w∈l
            ·have e1:=Zg6 (m:=m) (l:=l) (v:=v) (k:=w) (λ h=>h.2 d2);have e2:=Zg5 (m:=m) (l:=l) (v:=v) (k:=w) (λ h=>h.2 d2);rw[yB d2]at hcw;refine kw1 kO (kc2 d1I @Zan) (kc1 hcw) ?_;refine⟨w+1,?_,kN (kc2 e1 e2) [],?_⟩
             ·omega
             ·omega
            ·have e1:=Zln (m:=m) (l:=l) (v:=v) (k:=w) ⟨d1,d2⟩;have e2:=Zlg (m:=m) (l:=l) (v:=v) (k:=w) ⟨d1,d2⟩;rw[uU d2]at hcw;refine kw1 kO (kc7 d1I @Zan hp1 hp3 hq1 hq3 @ZjH) (kc1 hcw) ?_;refine⟨w+1,?_,kN (kc2 e1 e2) [],?_⟩
             ·omega
             ·omega
          ·have:w=m.length:=by omega
           subst this
           repeat' first|refine ZbH rfl ?_|refine Za0 ?_|refine wR ?_|refine rcM [(1001,125),(2000,904)] (ih) rfl ?_|(refine ZbM rfl rfl (λ hc=>?_) (λ hc=>?_)<;>try simp only[hcL]at hc)|(refine ZbL _ rfl rfl (λ hc=>?_) (λ hc=>?_)<;>(try simp only[hcL]at hc)<;>try omega)|simp(disch:=omega) only[go_sem,simprocAttr,roomy,Zan,en,zN]|exact ZhZ v|apply And.intro|omega|decide+kernel
           refine⟨v+1,?_,?_,?_⟩
           ·omega
           ·try dsimp only
            rw[hst2];exact ZbA.2 (Ent.trans (Zk6 904 1 _ l.length rfl) (Ent.trans (Zk5 1000 1 904 1 0 l.length (l.length+1) l.length rfl rfl (by omega)) (ZbA.1 (eL [(901,904)] _ _ (by refine⟨?_,?_⟩<;>(repeat' first|exact yC _|refine uO.2 ⟨(by first|rfl|(simp(disch:=omega) only[go_sem,simprocAttr,inL,hT,bPV,lI,Aj,kJ];first|done|omega|(congr 1;done))),?_⟩);done)))))
           ·omega
      ·have:v=m.length:=by omega
       subst this;rw[hend];simp only[bPV,lI];refine kw1 kO kc0 kc0 ?_;refine⟨_,ZbA.1 (eL [(2000,901)] [] [(1000, .cells [.d (Zag m), .ref 2000 1 0 l.length l.length, .d (Zbh be), .int ke]),(1001, .gone),(2000, .row 1 (l.map Zao))] (by constructor<;>(repeat' first|exact yC _|refine uO.2 ⟨rfl,?_⟩);done)),?_⟩;exact⟨⟨[],rfl,trivial⟩,uO.2 ⟨rfl,uO.2 ⟨rfl,uO.2 ⟨rfl,yC _⟩⟩⟩⟩
    ·have hk:¬k<=cost+rest:=by simpa[Zdk]using hsh
     have hbl':=hbl _ rfl;have hnl:¬(l.length:Int)=m.length:=by omega
     have hne:(b.map Zao).isEmpty=false:=by
      cases b with
      |nil=>simp at hbl';omega
      |cons x b=>rfl
     refine kw1 kO (kc3 hne hk hnl) kc0 ?_;refine Zae (λ(v:Nat)=>v<=m.length) (λ v=>[(0, .ptr 1000 0 0 0),(1, .int cost),(2, .int rest),(51, .d (Zag m)),(52, .int m.length),(53, .int v)]) (λ v=>[(1000, .cells [.d (Zag m), .ref 901 1 0 l.length l.length,bPV (ZbI (Zak m) m.length f l cost rest st0 v), .int (lI (ZbI (Zak m) m.length f l cost rest st0 v))]),(1001, .gone),(901, .row 1 (l.map Zao))]) (λ v=>m.length-v) 0 ?_ ?_ ?_
     ·exact uG _
     ·try dsimp only
      rw[Go.Bd.foldE_zero,<-hst0];exact ZbA.2 (Ent.trans (Zjw 1001 901 rfl (by decide) (by decide)) (ZbA.1 (eL [] _ _ (by refine⟨?_,?_⟩<;>(repeat' first|exact yC _|refine uO.2 ⟨(by first|rfl|(simp(disch:=omega) only[go_sem,simprocAttr,inL,bPV,lI];first|done|omega|(congr 1;done))),?_⟩);done) (h7:=Zsq (by simp) (by decide) (by repeat' first|exact ZgD|exact ZgE _ rfl|refine ZgF rfl ?_)))))
     ·intro v hv;have hlv:=hlen v hv;rcases uC v m.length with hlt|hge
      ·have hin:=ZiA l v;by_cases hm:v∈l
       ·rw[yB hm]at hin;have e1:=Go.Bd.foldE_in (Zak m) m.length (f:=f) (cost:=cost) (rest:=rest) (st:=st0) hm;rcases hst:ZbI (Zak m) m.length f l cost rest st0 v with _|⟨b0,k0⟩<;>rw[hst]at e1<;>simp only[bPV,lI]
        all_goals
         refine kw1 kO (kc1 @Zan) (kc1 hin) ?_;refine⟨v+1,?_,?_,?_⟩
         ·omega
         ·try dsimp only
          rw[e1];exact kN (kc2 @bPV.eq_1 @lI.eq_1) []
         ·omega
       ·rw[uU hm]at hin;have e1:=Go.Bd.foldE_out (Zak m) m.length (f:=f) (cost:=cost) (rest:=rest) (st:=st0) hm;have ih:=hIH v hlt hm;have en:(((l.length+1:Nat):Int)-1).toNat=l.length:=by omega
        have hT:(l.map Zao++[Zao v]).take l.length=l.map Zao:=List.take_left' (uD ..);rcases hst:ZbI (Zak m) m.length f l cost rest st0 v with _|⟨b0,k0⟩
        all_goals
         rw[hst]at e1 ih;have e3:ZbI (Zak m) m.length f l cost rest st0 (v+1)=Zca (Zak m) m.length f (l++[v]) (cost+ZbQ m l v m.length) (rest-ZbO m l v m.length) _:=e1;rw[ZfD,<-e3]at ih;obtain⟨⟨b2,k2⟩,hst2⟩:∃s,ZbI (Zak m) m.length f l cost rest st0 (v+1)=some s:=by
          rw[e3];exact Go.Bd.ext_some f (l++[v]) (hp.snoc hlt hm) _ _ _
         rw[hst2]at ih e3;simp only[bPV,lI,uH,uX,uW,uR,uS,yE,qM]at ih|-
        ·refine kw1 kO (kc1 @Zan) (kc1 hin) ?_;refine Zae (λ(w:Nat)=>w<=m.length) (λ w=>[(0, .ptr 1000 0 0 0),(1, .int cost),(2, .int rest),(6, .int v),(7, .int (ZbQ m l v w)),(8, .int (ZbO m l v w)),(51, .d (Zag m)),(52, .int m.length),(53, .int v),(65, .d (Zag m)),(66, .int m.length),(67, .int w)]) (λ w=>[(1000, .cells [.d (Zag m), .ref 901 1 0 l.length l.length, .nilS, .int 0]),(1001, .gone),(901, .row 1 (l.map Zao))]) (λ w=>m.length-w) 0 ?_ ?_ ?_
         ·exact uG _
         ·exact eL [] _ _ (by refine⟨?_,?_⟩<;>(repeat' first|exact fmn|refine fmc ⟨(by first|rfl|(simp(disch:=omega) only[go_sem,simprocAttr,inL,ZbQ,ZbO,sm];first|done|omega|(congr 1;done))),?_⟩);done)
         ·intro w hw;have b1:0<=ZbQ m l v w/\ZbQ m l v w<=1000000*w:=Go.Bd.more_bounds hs.small l hlt w hw;have b2:0<=ZbO m l v w/\ZbO m l v w<=1000000*w:=Go.Bd.less_bounds hs.small l hlt w hw;rcases uC w m.length with hlw|hgw
          ·obtain⟨p,hp1,hp2,hp3,hp4,hp5⟩:=hs.get hlt hlw;obtain⟨q,hq1,hq2,hq3,hq4,hq5⟩:=hs.get hlw hlt;have hcw:=ZiA l w;by_cases d1:w=v
           ·have e1:=Zg6 (m:=m) (l:=l) (v:=v) (k:=w) (λ h=>h.1 d1);have e2:=Zg5 (m:=m) (l:=l) (v:=v) (k:=w) (λ h=>h.1 d1);have d1I:(w:Int)=v:=by omega
            refine kw1 kO (kc1 d1I) kc0 ?_;refine⟨w+1,?_,kN (kc2 e1 e2) [],?_⟩
            ·omega
            ·omega
           ·have d1I:¬(w:Int)=v:=by omega
            by_cases d2:w∈l
            ·have e1:=Zg6 (m:=m) (l:=l) (v:=v) (k:=w) (λ h=>h.2 d2);have e2:=Zg5 (m:=m) (l:=l) (v:=v) (k:=w) (λ h=>h.2 d2);rw[yB d2]at hcw;refine kw1 kO (kc2 d1I @Zan) (kc1 hcw) ?_;refine⟨w+1,?_,kN (kc2 e1 e2) [],?_⟩
             ·omega
             ·omega
            ·have e1:=Zln (m:=m) (l:=l) (v:=v) (k:=w) ⟨d1,d2⟩;have e2:=Zlg (m:=m) (l:=l) (v:=v) (k:=w) ⟨d1,d2⟩;rw[uU d2]at hcw;refine kw1 kO (kc7 d1I @Zan hp1 hp3 hq1 hq3 @ZjH) (kc1 hcw) ?_;refine⟨w+1,?_,kN (kc2 e1 e2) [],?_⟩
             ·omega
             ·omega
          ·have:w=m.length:=by omega
           subst this
           repeat' first|refine ZbH rfl ?_|refine Za0 ?_|refine wR ?_|refine rcM [(1001,125),(2000,904)] (ih) rfl ?_|(refine ZbM rfl rfl (λ hc=>?_) (λ hc=>?_)<;>try simp only[hcL]at hc)|(refine ZbL _ rfl rfl (λ hc=>?_) (λ hc=>?_)<;>(try simp only[hcL]at hc)<;>try omega)|simp(disch:=omega) only[go_sem,simprocAttr,roomy,Zan,en,zN]|exact ZhZ v|apply And.intro|omega|decide+kernel
           refine⟨v+1,?_,?_,?_⟩
           ·omega
           ·try dsimp only
            rw[hst2];exact ZbA.2 (Ent.trans (Zk6 904 1 _ l.length rfl) (Ent.trans (Zk5 1000 1 904 1 0 l.length (l.length+1) l.length rfl rfl (by omega)) (ZbA.1 (eL [(901,904)] _ _ (by refine⟨?_,?_⟩<;>(repeat' first|exact yC _|refine uO.2 ⟨(by first|rfl|(simp(disch:=omega) only[go_sem,simprocAttr,inL,hT,bPV,lI,Aj,kJ];first|done|omega|(congr 1;done))),?_⟩);done)))))
           ·omega
        ·refine kw1 kO (kc1 @Zan) (kc1 hin) ?_;refine Zae (λ(w:Nat)=>w<=m.length) (λ w=>[(0, .ptr 1000 0 0 0),(1, .int cost),(2, .int rest),(6, .int v),(7, .int (ZbQ m l v w)),(8, .int (ZbO m l v w)),(51, .d (Zag m)),(52, .int m.length),(53, .int v),(65, .d (Zag m)),(66, .int m.length),(67, .int w)]) (λ w=>[(1000, .cells [.d (Zag m), .ref 901 1 0 l.length l.length, .d (Zbh b0), .int k0]),(1001, .gone),(901, .row 1 (l.map Zao))]) (λ w=>m.length-w) 0 ?_ ?_ ?_
         ·exact uG _
         ·exact eL [] _ _ (by refine⟨?_,?_⟩<;>(repeat' first|exact fmn|refine fmc ⟨(by first|rfl|(simp(disch:=omega) only[go_sem,simprocAttr,inL,ZbQ,ZbO,sm];first|done|omega|(congr 1;done))),?_⟩);done)
         ·intro w hw;have b1:0<=ZbQ m l v w/\ZbQ m l v w<=1000000*w:=Go.Bd.more_bounds hs.small l hlt w hw;have b2:0<=ZbO m l v w/\ZbO m l v w<=1000000*w:=Go.Bd.less_bounds hs.small l hlt w hw;rcases uC w m.length with hlw|hgw
          ·obtain⟨p,hp1,hp2,hp3,hp4,hp5⟩:=hs.get hlt hlw;obtain⟨q,hq1,hq2,hq3,hq4,hq5⟩:=hs.get hlw hlt;have hcw:=ZiA l w;by_cases d1:w=v
           ·have e1:=Zg6 (m:=m) (l:=l) (v:=v) (k:=w) (λ h=>h.1 d1);have e2:=Zg5 (m:=m) (l:=l) (v:=v) (k:=w) (λ h=>h.1 d1);have d1I:(w:Int)=v:=by omega
            refine kw1 kO (kc1 d1I) kc0 ?_;refine⟨w+1,?_,kN (kc2 e1 e2) [],?_⟩
            ·omega
            ·omega
           ·have d1I:¬(w:Int)=v:=by omega
            by_cases d2:w∈l
            ·have e1:=Zg6 (m:=m) (l:=l) (v:=v) (k:=w) (λ h=>h.2 d2);have e2:=Zg5 (m:=m) (l:=l) (v:=v) (k:=w) (λ h=>h.2 d2);rw[yB d2]at hcw;refine kw1 kO (kc2 d1I @Zan) (kc1 hcw) ?_;refine⟨w+1,?_,kN (kc2 e1 e2) [],?_⟩
             ·omega
             ·omega
            ·have e1:=Zln (m:=m) (l:=l) (v:=v) (k:=w) ⟨d1,d2⟩;have e2:=Zlg (m:=m) (l:=l) (v:=v) (k:=w) ⟨d1,d2⟩;rw[uU d2]at hcw;refine kw1 kO (kc7 d1I @Zan hp1 hp3 hq1 hq3 @ZjH) (kc1 hcw) ?_;refine⟨w+1,?_,kN (kc2 e1 e2) [],?_⟩
             ·omega
             ·omega
          ·have:w=m.length:=by omega
           subst this
           repeat' first|refine ZbH rfl ?_|refine Za0 ?_|refine wR ?_|refine rcM [(1001,125),(2000,904)] (ih) rfl ?_|(refine ZbM rfl rfl (λ hc=>?_) (λ hc=>?_)<;>try simp only[hcL]at hc)|(refine ZbL _ rfl rfl (λ hc=>?_) (λ hc=>?_)<;>(try simp only[hcL]at hc)<;>try omega)|simp(disch:=omega) only[go_sem,simprocAttr,roomy,Zan,en,zN]|exact ZhZ v|apply And.intro|omega|decide+kernel
           refine⟨v+1,?_,?_,?_⟩
           ·omega
           ·try dsimp only
            rw[hst2];exact ZbA.2 (Ent.trans (Zk6 904 1 _ l.length rfl) (Ent.trans (Zk5 1000 1 904 1 0 l.length (l.length+1) l.length rfl rfl (by omega)) (ZbA.1 (eL [(901,904)] _ _ (by refine⟨?_,?_⟩<;>(repeat' first|exact yC _|refine uO.2 ⟨(by first|rfl|(simp(disch:=omega) only[go_sem,simprocAttr,inL,hT,bPV,lI,Aj,kJ];first|done|omega|(congr 1;done))),?_⟩);done)))))
           ·omega
      ·have:v=m.length:=by omega
       subst this;rw[hend];simp only[bPV,lI];refine kw1 kO kc0 kc0 ?_;refine⟨_,ZbA.1 (eL [(2000,901)] [] [(1000, .cells [.d (Zag m), .ref 2000 1 0 l.length l.length, .d (Zbh be), .int ke]),(1001, .gone),(2000, .row 1 (l.map Zao))] (by constructor<;>(repeat' first|exact yC _|refine uO.2 ⟨rfl,?_⟩);done)),?_⟩;exact⟨⟨[],rfl,trivial⟩,uO.2 ⟨rfl,uO.2 ⟨rfl,uO.2 ⟨rfl,yC _⟩⟩⟩⟩
  ·exact ZqB m (f+1) l st cost rest hi (by omega) hsh (by rw[Go.Bd.ext_foldE,if_pos hsh])
end Go.Proofs.YtjjbhjnpeenbkaaGreatDoor
namespace Go.Proofs.YtjjbhjnpeenbkaaGreatDoor
open Go Go.PS Go.Proofs
open Go.Bd (sm Zat Zbp low Part ZbC Zbs Zca ZbI Zda Zc8 Zdk Zfl)
set_option maxRecDepth 100000
attribute [local irreducible] Zad wpG Zaa Zah
theorem Zw9 (m:List (List Int)):Zca (Zak m) m.length m.length [] 0 (low (Zak m) m.length []) none=some (Zc1 m):=by
 have h:=Go.Bd.ext_best (Zak m) m.length [] (Zj6 _) none;rw[Zmw]at h;exact h
theorem Zjf (m:List (List Int)):Zaa Tryz.prog 110 [Zag m] (if okM m then .tup [Zbh (Zc1 m).1, .int (Zc1 m).2, .int 0]else .tup [.sl [], .int 0, .int 1]):=by
 have hv:=Zpw m;rcases h:okM m with _|_<;>rw[h]at hv
 ·rw[if_neg (by decide)];refine kE Tryz.func110 ?_;intro hat B X w0;refine kw1 kO kc0 (kc1 hv) ?_;exact⟨_,rfl,ZdB rfl,Zaf rfl,Zaf rfl,trivial⟩
 ·rw[if_pos rfl];obtain⟨hs,h8⟩:=ZnP h;have hlo:=ZuL m h;have hb:0<=low (Zak m) m.length []/\low (Zak m) m.length []<=64000000:=by
   rw[ZrU];have:=ZrS hs h8 m.length (uI _);omega
  have he:=Zxa m hs h8 m.length [] (Zj6 _) none 0 (low (Zak m) m.length []) ⟨λ s hs=>(by cases hs), .inr rfl,by omega,by simp,by simp only[uW];omega,by omega⟩;rw[ZfD,Zw9]at he;simp only[bPV,lI,uW,yE]at he;refine kE Tryz.func110 ?_;intro hat B X w0
  repeat' first|refine ZbH rfl ?_|refine Za0 ?_|refine Zn5 4 rfl (λ _=>false) ZcE ?_|(refine rc (hv) rfl ?_ ?_;(· first|rfl|simp(disch:=omega) only[go_sem,simprocAttr]))|(refine ZbM rfl rfl (λ hc=>?_) (λ hc=>?_)<;>try simp only[hcL]at hc)|(refine ZbL _ rfl rfl (λ hc=>?_) (λ hc=>?_)<;>(try simp only[hcL]at hc)<;>try omega)|simp(disch:=omega) only[go_sem,simprocAttr]|apply And.intro|omega|decide+kernel
  refine Zaq _ (Zb9 11 1 901 1 rfl rfl rfl) ?_;refine kw1 kO kc0 (kc2 hlo (kmc [(1000,11),(1001,901),(2000,902)] he)) ?_;exact⟨_,rfl,ZdB rfl,Zaf rfl,Zaf rfl,trivial⟩
end Go.Proofs.YtjjbhjnpeenbkaaGreatDoor
namespace Go.Proofs.YtjjbhjnpeenbkaaGreatDoor
open Go Go.PS Go.Proofs
open Go.Bd (ix ZdL Zer ZcO ZbY ZiY)
set_option maxRecDepth 100000
attribute [local irreducible] Zad wpG Zaa Zah
theorem Znr {l:List Int}{v:Int}(h:v∈l):ix l v=((l.idxOf v:Nat):Int):=by rw[ix,if_pos h]
theorem Zeu {l:List (List Int)}{k:Nat}{y:List Int}(h:l[k]? =some y):Zay l k=y:=by rw[Zay,h];rfl
theorem ZiK {l:List (List Int)}{k:Nat}(h:l.length<=k):Zay l k=[]:=by rw[Zay,uL h];rfl
def okW (a:Lv)(w:Int):Bool:=Zaw a&&decide (0<=w/\w<=1000)
def Zle (a:Lv)(old:List (List Int))(k:Nat):Int:=ZaJ (λ i=>(ZdL (Zay old i) (Zay a.2.1 i):Int)) k
def costF (a:Lv)(old:List (List Int))(w:Int):Int:=if okW a w then Zbk a+w*Zle a old a.2.1.length else -1
theorem Zyu {a:Lv}(h:Zaw a=true)(k:Nat):(Zay a.2.1 k).length<=512:=by
 obtain⟨t1,t2⟩:=Zdy h;rcases uC k a.2.1.length with hlt|hge
 ·obtain⟨y,hy⟩:=Zac hlt;rw[Zeu hy];have:=Zde (uA hy);omega
 ·rw[ZiK hge];simp
def Zbg (g:Nat->Int)(n:Nat):List Int:=(List.range n).map g
def ZcK (f g:Nat->Int)(n b:Nat):List Int:=Zbg (λ v=>if v<b then g v else f v) n
theorem Zex (g:Nat->Int)(n:Nat):(Zbg g n).length=n:=by simp[Zbg]
theorem Zf8 {g:Nat->Int}{n v:Nat}(h:v<n):(Zbg g n)[v]? =some (g v):=by simp[Zbg,h]
theorem Zhd {f g:Nat->Int}{n:Nat}(h:∀v,v<n->f v=g v):Zbg f n=Zbg g n:=yN λ v hv=>h v (yA.1 hv)
theorem ZjT (f g:Nat->Int)(n b:Nat):(ZcK f g n b).length=n:=Zex _ _
theorem Zr3 (f g:Nat->Int)(n:Nat):ZcK f g n 0=Zbg f n:=Zhd λ v _=>if_neg (by omega)
theorem Zr0 (f g:Nat->Int)(n:Nat):ZcK f g n n=Zbg g n:=Zhd λ v hv=>if_pos hv
theorem Zr1 {f g:Nat->Int}{n b:Nat}(h:b<n):(ZcK f g n b)[b]? =some (f b):=by rw[ZcK,Zf8 h,if_neg (by omega)]
theorem Zr2 {f g:Nat->Int}{n b:Nat}(h:b<n):(ZcK f g n b).set b (g b)=ZcK f g n (b+1):=by
 refine yS λ v=>?_
 rw[yX,ZjT];by_cases c:b=v
 ·subst c;rw[if_pos rfl,if_pos h,ZcK,Zf8 h,if_pos (by omega)]
 ·rw[if_neg c];by_cases c2:v<n
  ·rw[ZcK,ZcK,Zf8 c2,Zf8 c2];by_cases c3:v<b
   ·rw[if_pos c3,if_pos (by omega)]
   ·rw[if_neg c3,if_neg (by omega)]
  ·rw[uL (by rw[ZjT];omega),uL (by rw[ZjT];omega)]
theorem Ztg (n:Nat):List.replicate n (D.int 0)=(Zbg (λ _=>0) n).map D.int:=by
 rw[Zbg,gR];refine yS λ v=>?_
 by_cases c:v<n<;>simp[qT,c]
def Zi7 (old y:List Int)(w:Int)(u v:Nat):Int:=if 0<=ix old (at0 y v)/\ix old (at0 y v)<ix old (at0 y u)then w else 0
def ZeV (i:Nat)(t:Nat):Int:=if t=0 then(i:Int)-1 else(i:Int)+1
def ZdF (a:Lv)(old y:List Int)(w:Int)(i:Nat):Nat->Nat->Nat->Int
 |0,u,v=>Zi7 old y w u v
 |t+1,u,v=>ZdF a old y w i t u v+Zak (ZaT a i (ZeV i t)) u v
def sqM (g:Nat->Nat->Int)(n:Nat):List (List Int):=(List.range n).map λ u=>Zbg (g u) n
def stM (a:Lv)(old y:List Int)(w:Int)(i:Nat):List (List Int):=sqM (ZdF a old y w i 2) y.length
theorem ZpX {m:List (List Int)}(h:Sq m)(u v:Nat):0<=Zak m u v/\Zak m u v<=1000000:=by
 by_cases hu:u<m.length
 ·by_cases hv:v<m.length
  ·obtain⟨_,_,_,_,h1,h2⟩:=h.get hu hv;exact⟨h1,h2⟩
  ·obtain⟨p,hp⟩:=Zac hu;have:=h.row p (uA hp);rw[Zak,Zeu hp,at0,uK,uL (by omega)];decide
 ·rw[Zak,ZiK (by omega)];simp[at0]
theorem ZkE (a:Lv)(old y:List Int){w:Int}(hw:0<=w/\w<=1000)(i:Nat):∀t u v,0<=ZdF a old y w i t u v/\ZdF a old y w i t u v<=1000+1000000*t
 |0,u,v=>by
  rw[ZdF,Zi7];split<;>omega
 |t+1,u,v=>by
  have ih:=ZkE a old y hw i t u v;have:=ZpX (Zkx a i (ZeV i t)) u v;rw[ZdF];omega
end Go.Proofs.YtjjbhjnpeenbkaaGreatDoor
namespace Go.Proofs.YtjjbhjnpeenbkaaGreatDoor
open Go Go.PS Go.Proofs
open Go.Bd (ix ZdL Zer ZcO Zat ZgP ZoC ZiI Part ZbC)
theorem Zv7 {g:Nat->Nat->Int}{n u v:Nat}(hu:u<n)(hv:v<n):Zak (sqM g n) u v=g u v:=by
 rw[Zak,sqM,Zay,uJ,qC hu];simp only[yY,yK];rw[at0,uK,Zf8 hv];rfl
theorem ZlU (a:Lv)(old y:List Int)(w:Int)(i:Nat):(stM a old y w i).length=y.length:=by simp[stM,sqM]
def yG (y:List Int)(k:Nat):Int:=(y[k]?).getD 0
theorem ZEe (old y:List Int)(w:Int)(u v:Nat):Zi7 old y w u v=w*ZiI old (yG y) u v:=by
 have e:∀k:Nat,at0 y k=yG y k:=λ k=>by rw[at0,uK];rfl
 rw[Zi7,ZiI,e,e];by_cases h1:yG y u∈old<;>by_cases h2:yG y v∈old
 ·rw[Znr h1,Znr h2];by_cases h3:old.idxOf (yG y v)<old.idxOf (yG y u)
  ·rw[if_pos ⟨by omega,by omega⟩,if_pos ⟨h1,h2,h3⟩,Int.mul_one]
  ·rw[if_neg (λ h=>h3 (by omega)),if_neg (λ h=>h3 h.2.2),By]
 ·rw[if_neg (λ h=>by
   have:=h.1;rw[ix,if_neg h2]at this;omega),if_neg (λ h=>h2 h.2.1),By]
 ·rw[if_neg (λ h=>by
   have:=h.2;rw[Znr h2,ix,if_neg h1]at this;omega),if_neg (λ h=>h1 h.1),By]
 ·rw[if_neg (λ h=>by
   have:=h.1;rw[ix,if_neg h2]at this;omega),if_neg (λ h=>h1 h.1),By]
theorem Zu2 (a:Lv)(old y:List Int)(w:Int)(i:Nat)(u v:Nat):ZdF a old y w i 2 u v=w*ZiI old (yG y) u v+ZhI a i u v:=by
 rw[<-ZEe];show Zi7 old y w u v+Zak (ZaT a i ((i:Int)-1)) u v+Zak (ZaT a i ((i:Int)+1)) u v=_;rw[ZhI];omega
theorem ZDg (a:Lv)(old y:List Int)(w:Int)(i:Nat){o:List Nat}(ho:Part y.length 0 o):
  Zat (Zak (stM a old y w i)) o=w*Zat (ZiI old (yG y)) o+Zat (ZhI a i) o:=by
 rw[<-ZoC,<-ZgP];refine ZoA ho.nd λ u hu v hv _=>?_
 rw[stM,Zv7 (ho.lt u hu) (ho.lt v hv),Zu2]
theorem ZjL {a:Lv}(hv:Zaw a=true){i:Nat}{y:List Int}(hy:a.2.1[i]? =some y):y.Nodup:=
 (jK.1 (ZfC hv)).1 y (uA hy)
theorem Zn0 {y:List Int}{o:List Nat}(hn:y.Nodup)(ho:Part y.length 0 o):(ZaM y o).Perm y:=
 (Ay (Zst hn ho) hn).2 λ _=>Zss ho
theorem ZBq {a:Lv}(hv:Zaw a=true){i:Nat}{y:List Int}{o:List Nat}(hy:a.2.1[i]? =some y)(ho:Part y.length 0 o):Ze3 a i (ZaM y o)=(Zcc a i (ZaM y o),0):=by
 have hil:=(uB.1 hy).1;rw[Ze3,if_neg (by rw[hv];decide),if_neg (by omega),uK,hy,yK,if_neg (by rw[Zot (Zn0 (ZjL hv hy) ho)];simp)];rfl
end Go.Proofs.YtjjbhjnpeenbkaaGreatDoor
