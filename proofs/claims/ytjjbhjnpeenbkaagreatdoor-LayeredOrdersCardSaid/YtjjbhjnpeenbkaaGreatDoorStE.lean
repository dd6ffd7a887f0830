/- Branch and bound: extend, all of it. -/
import Derived.Test.YtjjbhjnpeenbkaaGreatDoorStA
import Derived.Test.YtjjbhjnpeenbkaaGreatDoorPSBd
import Derived.Test.YtjjbhjnpeenbkaaGreatDoorCf
import Derived.Test.YtjjbhjnpeenbkaaGreatDoorG
set_option linter.unusedSimpArgs false
set_option linter.unusedVariables false
set_option maxHeartbeats 16000000
namespace Go.Proofs.YtjjbhjnpeenbkaaGreatDoor
open Go Go.PS Go.Proofs
open Go.Bd (sm aI cu low Part co cJ b7 dW dp fu ft fK)
set_option maxRecDepth 100000
attribute [local irreducible] ao wpG ah ax
def dy (m:List (List Int))(l:List Nat)(v k:Nat):Int:=sm (λ w=>if w≠v/\w∉l then au m v w else 0) k
def dw (m:List (List Int))(l:List Nat)(v k:Nat):Int:=sm (λ w=>if w≠v/\w∉l then min (au m v w) (au m w v)else 0) k
theorem Ga {ids:List Nat}{S:St}{o Z:Nat}(X:o∈ids)(V:Z<1000\/2000<=Z)(h:dT ids S.objs):
  dT ids (λ x=>if x=o then .gone else if x=Z then(S.objs o).ren (mvG o Z)else(S.objs x).ren (mvG o Z)):=λ i a b Y=>by
 dsimp only;rw[if_neg (λ e:i=o=>Y (e▸X)),if_neg xA,h i a b Y];rfl
theorem nu {m:List (List Int)}{l:List Nat}{v k:Nat}(h:¬(k≠v/\k∉l)):dy m l v (k+1)=dy m l v k:=by rw[dy,sm,if_neg h,jM];rfl
theorem tK {m:List (List Int)}{l:List Nat}{v k:Nat}(h:k≠v/\k∉l):dy m l v (k+1)=dy m l v k+au m v k:=by rw[dy,sm,if_pos h];rfl
theorem nr {m:List (List Int)}{l:List Nat}{v k:Nat}(h:¬(k≠v/\k∉l)):dw m l v (k+1)=dw m l v k:=by rw[dw,sm,if_neg h,jM];rfl
theorem tE {m:List (List Int)}{l:List Nat}{v k:Nat}(h:k≠v/\k∉l):dw m l v (k+1)=dw m l v k+min (au m v k) (au m k v):=by rw[dw,sm,if_pos h];rfl
theorem LC (m:List (List Int))(K:Sq m)(h8:m.length<=8):∀(f:Nat) (l:List Nat),Part m.length f l->∀(st:Option (List Nat×Int)) (cost rest:Int),ExtIn m l st cost rest->lA m f l st cost rest:=by
 intro f
 induction f with
 |zero=>
  intro l hp st cost rest hi;have hll:=hp.len;rcases J:fK st (cost+rest)with _|_
  ·exact LF m K h8 l hp st cost rest hi J
  ·exact D2 m 0 l st cost rest hi xA J (by rw[dW,if_pos J])
 |succ f IH=>
  intro l hp st cost rest hi;have hll:=hp.len;rcases J:fK st (cost+rest)with _|_
  ·rw[lA,Go.Bd.ext_foldE,if_neg (by rw[J];decide)];have z:=Ma (cost:=cost) (rest:=rest) (c:=au m) hp hi.len;have hIH:∀v,v<m.length->v∉l->lA m f (l++[v]) (dp (au m) m.length f l cost rest st v) (cost+dy m l v m.length) (rest-dw m l v m.length):=λ v hv H=>by
    have b1:0<=dy m l v m.length/\dy m l v m.length<=1000000*m.length:=Go.Bd.more_bounds K.small l hv m.length (uI _);have b2:0<=dw m l v m.length/\dw m l v m.length<=1000000*m.length:=Go.Bd.less_bounds K.small l hv m.length (uI _);have b3:=hi.c0;have b4:=hi.c1;have b5:=hi.r0;have b6:=hi.r1;refine IH _ (hp.snoc hv H) _ _ _ ⟨z v xA, .inl xA,xA,?_,?_,xA⟩
    ·rw[uH,qQ,zN];simp only[uV,uU];omega
    ·rw[uH,qQ,zN];simp only[uV,uU];omega
   obtain⟨Y,I⟩:∃Y,st=Y:=⟨_,rfl⟩;rw[I]at z hIH|-;obtain⟨hbl,hpos,c0,c1,r0,r1⟩:=hi;obtain⟨⟨be,ke⟩,hend⟩:∃s,dp (au m) m.length f l cost rest Y m.length=some s:=by
    obtain⟨s,hx⟩:=Go.Bd.ext_some (c:=au m) (f+1) l hp cost rest Y;rw[Go.Bd.ext_foldE,if_neg (by rw[<-I,J];decide)]at hx;exact⟨s,hx⟩
   rw[hend]
   all_goals
    rw[<-I];rcases st with _|⟨b,k⟩
    all_goals simp only[bPV,lI]
    all_goals
     refine kM Tryz.func179 ?_
    all_goals intro B X w0
    all_goals refine fc ?_
    ·have hnl:¬(l.length:Int)=m.length:=xA;refine ac kO (ae hnl) aa ?_;refine aq (λ(v:Nat)=>v<=m.length) (λ v=>[(0, .ptr 1000 0 0 0),(1, .int cost),(2, .int rest),(51, .d (am m)),(52, .int m.length),(53, .int v)]) (λ v=>[(1000, .cells [.d (am m), .ref 901 1 0 l.length l.length,bPV (dp (au m) m.length f l cost rest Y v), .int (lI (dp (au m) m.length f l cost rest Y v))]),(1001, .gone),(901, .row 1 (l.map aG))]) (λ v=>m.length-v) 0 ?_ ?_ ?_
     ·exact uF _
     ·try dsimp only
      rw[Go.Bd.foldE_zero,<-I];exact cI.2 (Ent.trans (pF 1001 901 rfl xC xC) (cI.1 (eL [] _ _ (by refine⟨?_,?_⟩<;>(repeat' first|exact yB _|refine uM.2 ⟨(by first|rfl|(simp(disch:=omega) only[go_sem,simprocAttr,inL,bPV,lI];first|done|omega|(congr 1;done))),?_⟩);done) (h7:=Ga xB xC (by repeat' first|exact mC|exact mE _ rfl|refine mF rfl ?_)))))
     ·intro v hv;have hlv:=z v hv;rcases uD v m.length with Z|hge
      ·have O:=pB l v;by_cases H:v∈l
       ·rw[uZ H]at O;have T:=Go.Bd.foldE_in (au m) m.length (f:=f) (cost:=cost) (rest:=rest) (st:=Y) H;rcases A:dp (au m) m.length f l cost rest Y v with _|⟨b0,k0⟩<;>rw[A]at T<;>simp only[bPV,lI]
        all_goals
         refine ac kO (ae @aA) (ae O) ?_;refine⟨v+1,?_,?_,?_⟩
         ·omega
         ·try dsimp only
          rw[T];exact kN (ai @bPV.eq_1 @lI.eq_1) []
         ·omega
       ·rw[uW H]at O;have T:=Go.Bd.foldE_out (au m) m.length (f:=f) (cost:=cost) (rest:=rest) (st:=Y) H;have ih:=hIH v Z H;have en:(((l.length+1:Nat):Int)-1).toNat=l.length:=xA;have hT:(l.map aG++[aG v]).take l.length=l.map aG:=List.take_left' (uC ..);rcases A:dp (au m) m.length f l cost rest Y v with _|⟨b0,k0⟩
        all_goals
         rw[A]at T ih;have e3:dp (au m) m.length f l cost rest Y (v+1)=dW (au m) m.length f (l++[v]) (cost+dy m l v m.length) (rest-dw m l v m.length) _:=T;rw[lA,<-e3]at ih;obtain⟨⟨b2,k2⟩,M⟩:∃s,dp (au m) m.length f l cost rest Y (v+1)=some s:=by
          rw[e3];exact Go.Bd.ext_some f (l++[v]) (hp.snoc Z H) _ _ _
         rw[M]at ih e3;simp only[bPV,lI,uH,uV,uU,uO,uS,uY,yU]at ih|-
        ·refine ac kO (ae @aA) (ae O) ?_;refine aq (λ(w:Nat)=>w<=m.length) (λ w=>[(0, .ptr 1000 0 0 0),(1, .int cost),(2, .int rest),(6, .int v),(7, .int (dy m l v w)),(8, .int (dw m l v w)),(51, .d (am m)),(52, .int m.length),(53, .int v),(65, .d (am m)),(66, .int m.length),(67, .int w)]) (λ w=>[(1000, .cells [.d (am m), .ref 901 1 0 l.length l.length, .nilS, .int 0]),(1001, .gone),(901, .row 1 (l.map aG))]) (λ w=>m.length-w) 0 ?_ ?_ ?_
         ·exact uF _
         ·exact eL [] _ _ (by refine⟨?_,?_⟩<;>(repeat' first|exact fmn|refine fmc ⟨(by first|rfl|(simp(disch:=omega) only[go_sem,simprocAttr,inL,dy,dw,sm];first|done|omega|(congr 1;done))),?_⟩);done)
         ·intro w hw;have b1:0<=dy m l v w/\dy m l v w<=1000000*w:=Go.Bd.more_bounds K.small l Z w hw;have b2:0<=dw m l v w/\dw m l v w<=1000000*w:=Go.Bd.less_bounds K.small l Z w hw;rcases uD w m.length with N|hgw
          ·obtain⟨p,G,hp2,F,hp4,hp5⟩:=K.get Z N;obtain⟨q,E,hq2,C,hq4,hq5⟩:=K.get N Z;have U:=pB l w;by_cases L:w=v
           ·have T:=nu (m:=m) (l:=l) (v:=v) (k:=w) (λ h=>h.1 L);have R:=nr (m:=m) (l:=l) (v:=v) (k:=w) (λ h=>h.1 L);have V:(w:Int)=v:=xA;refine ac kO (ae V) aa ?_;refine⟨w+1,?_,kN (ai T R) [],?_⟩
            ·omega
            ·omega
           ·have V:¬(w:Int)=v:=xA;by_cases S:w∈l
            ·have T:=nu (m:=m) (l:=l) (v:=v) (k:=w) (λ h=>h.2 S);have R:=nr (m:=m) (l:=l) (v:=v) (k:=w) (λ h=>h.2 S);rw[uZ S]at U;refine ac kO (ai V @aA) (ae U) ?_;refine⟨w+1,?_,kN (ai T R) [],?_⟩
             ·omega
             ·omega
            ·have T:=tK (m:=m) (l:=l) (v:=v) (k:=w) ⟨L,S⟩;have R:=tE (m:=m) (l:=l) (v:=v) (k:=w) ⟨L,S⟩;rw[uW S]at U;refine ac kO (bV V @aA G F E C @rE) (ae U) ?_;refine⟨w+1,?_,kN (ai T R) [],?_⟩
             ·omega
             ·omega
          ·have:w=m.length:=xA;subst this
           repeat' first|refine bt rfl ?_|refine aV ?_|refine wR ?_|refine rcM [(1001,125),(2000,904)] (ih) rfl ?_|(refine bB rfl rfl (λ Q=>?_) (λ Q=>?_)<;>try simp only[hcL]at Q)|(refine bA _ rfl rfl (λ Q=>?_) (λ Q=>?_)<;>(try simp only[hcL]at Q)<;>try omega)|simp(disch:=omega) only[go_sem,simprocAttr,roomy,aA,en,kC]|exact ji v|apply And.intro|omega|decide+kernel
           refine⟨v+1,?_,?_,?_⟩
           ·omega
           ·try dsimp only
            rw[M];exact cI.2 (Ent.trans (tm 904 1 _ l.length rfl) (Ent.trans (tl 1000 1 904 1 0 l.length (l.length+1) l.length rfl rfl xA) (cI.1 (eL [(901,904)] _ _ (by refine⟨?_,?_⟩<;>(repeat' first|exact yB _|refine uM.2 ⟨(by first|rfl|(simp(disch:=omega) only[go_sem,simprocAttr,inL,hT,bPV,lI,As,kX];first|done|omega|(congr 1;done))),?_⟩);done)))))
           ·omega
        ·refine ac kO (ae @aA) (ae O) ?_;refine aq (λ(w:Nat)=>w<=m.length) (λ w=>[(0, .ptr 1000 0 0 0),(1, .int cost),(2, .int rest),(6, .int v),(7, .int (dy m l v w)),(8, .int (dw m l v w)),(51, .d (am m)),(52, .int m.length),(53, .int v),(65, .d (am m)),(66, .int m.length),(67, .int w)]) (λ w=>[(1000, .cells [.d (am m), .ref 901 1 0 l.length l.length, .d (br b0), .int k0]),(1001, .gone),(901, .row 1 (l.map aG))]) (λ w=>m.length-w) 0 ?_ ?_ ?_
         ·exact uF _
         ·exact eL [] _ _ (by refine⟨?_,?_⟩<;>(repeat' first|exact fmn|refine fmc ⟨(by first|rfl|(simp(disch:=omega) only[go_sem,simprocAttr,inL,dy,dw,sm];first|done|omega|(congr 1;done))),?_⟩);done)
         ·intro w hw;have b1:0<=dy m l v w/\dy m l v w<=1000000*w:=Go.Bd.more_bounds K.small l Z w hw;have b2:0<=dw m l v w/\dw m l v w<=1000000*w:=Go.Bd.less_bounds K.small l Z w hw;rcases uD w m.length with N|hgw
          ·obtain⟨p,G,hp2,F,hp4,hp5⟩:=K.get Z N;obtain⟨q,E,hq2,C,hq4,hq5⟩:=K.get N Z;have U:=pB l w;by_cases L:w=v
           ·have T:=nu (m:=m) (l:=l) (v:=v) (k:=w) (λ h=>h.1 L);have R:=nr (m:=m) (l:=l) (v:=v) (k:=w) (λ h=>h.1 L);have V:(w:Int)=v:=xA;refine ac kO (ae V) aa ?_;refine⟨w+1,?_,kN (ai T R) [],?_⟩
            ·omega
            ·omega
           ·have V:¬(w:Int)=v:=xA;by_cases S:w∈l
            ·have T:=nu (m:=m) (l:=l) (v:=v) (k:=w) (λ h=>h.2 S);have R:=nr (m:=m) (l:=l) (v:=v) (k:=w) (λ h=>h.2 S);rw[uZ S]at U;refine ac kO (ai V @aA) (ae U) ?_;refine⟨w+1,?_,kN (ai T R) [],?_⟩
             ·omega
             ·omega
            ·have T:=tK (m:=m) (l:=l) (v:=v) (k:=w) ⟨L,S⟩;have R:=tE (m:=m) (l:=l) (v:=v) (k:=w) ⟨L,S⟩;rw[uW S]at U;refine ac kO (bV V @aA G F E C @rE) (ae U) ?_;refine⟨w+1,?_,kN (ai T R) [],?_⟩
             ·omega
             ·omega
          ·have:w=m.length:=xA;subst this
           repeat' first|refine bt rfl ?_|refine aV ?_|refine wR ?_|refine rcM [(1001,125),(2000,904)] (ih) rfl ?_|(refine bB rfl rfl (λ Q=>?_) (λ Q=>?_)<;>try simp only[hcL]at Q)|(refine bA _ rfl rfl (λ Q=>?_) (λ Q=>?_)<;>(try simp only[hcL]at Q)<;>try omega)|simp(disch:=omega) only[go_sem,simprocAttr,roomy,aA,en,kC]|exact ji v|apply And.intro|omega|decide+kernel
           refine⟨v+1,?_,?_,?_⟩
           ·omega
           ·try dsimp only
            rw[M];exact cI.2 (Ent.trans (tm 904 1 _ l.length rfl) (Ent.trans (tl 1000 1 904 1 0 l.length (l.length+1) l.length rfl rfl xA) (cI.1 (eL [(901,904)] _ _ (by refine⟨?_,?_⟩<;>(repeat' first|exact yB _|refine uM.2 ⟨(by first|rfl|(simp(disch:=omega) only[go_sem,simprocAttr,inL,hT,bPV,lI,As,kX];first|done|omega|(congr 1;done))),?_⟩);done)))))
           ·omega
      ·have:v=m.length:=xA;subst this;rw[hend];simp only[bPV,lI];refine ac kO aa aa ?_;refine⟨_,cI.1 (eL [(2000,901)] [] [(1000, .cells [.d (am m), .ref 2000 1 0 l.length l.length, .d (br be), .int ke]),(1001, .gone),(2000, .row 1 (l.map aG))] (by constructor<;>(repeat' first|exact yB _|refine uM.2 ⟨rfl,?_⟩);done)),?_⟩;exact⟨⟨[],rfl,trivial⟩,uM.2 ⟨rfl,uM.2 ⟨rfl,uM.2 ⟨rfl,yB _⟩⟩⟩⟩
    ·have hk:¬k<=cost+rest:=by simpa[fK]using J
     have hbl':=hbl _ rfl;have hnl:¬(l.length:Int)=m.length:=xA;have hne:(b.map aG).isEmpty=false:=by
      cases b with
      |nil=>simp at hbl';omega
      |cons x b=>rfl
     refine ac kO (av hne hk hnl) aa ?_;refine aq (λ(v:Nat)=>v<=m.length) (λ v=>[(0, .ptr 1000 0 0 0),(1, .int cost),(2, .int rest),(51, .d (am m)),(52, .int m.length),(53, .int v)]) (λ v=>[(1000, .cells [.d (am m), .ref 901 1 0 l.length l.length,bPV (dp (au m) m.length f l cost rest Y v), .int (lI (dp (au m) m.length f l cost rest Y v))]),(1001, .gone),(901, .row 1 (l.map aG))]) (λ v=>m.length-v) 0 ?_ ?_ ?_
     ·exact uF _
     ·try dsimp only
      rw[Go.Bd.foldE_zero,<-I];exact cI.2 (Ent.trans (pF 1001 901 rfl xC xC) (cI.1 (eL [] _ _ (by refine⟨?_,?_⟩<;>(repeat' first|exact yB _|refine uM.2 ⟨(by first|rfl|(simp(disch:=omega) only[go_sem,simprocAttr,inL,bPV,lI];first|done|omega|(congr 1;done))),?_⟩);done) (h7:=Ga xB xC (by repeat' first|exact mC|exact mE _ rfl|refine mF rfl ?_)))))
     ·intro v hv;have hlv:=z v hv;rcases uD v m.length with Z|hge
      ·have O:=pB l v;by_cases H:v∈l
       ·rw[uZ H]at O;have T:=Go.Bd.foldE_in (au m) m.length (f:=f) (cost:=cost) (rest:=rest) (st:=Y) H;rcases A:dp (au m) m.length f l cost rest Y v with _|⟨b0,k0⟩<;>rw[A]at T<;>simp only[bPV,lI]
        all_goals
         refine ac kO (ae @aA) (ae O) ?_;refine⟨v+1,?_,?_,?_⟩
         ·omega
         ·try dsimp only
          rw[T];exact kN (ai @bPV.eq_1 @lI.eq_1) []
         ·omega
       ·rw[uW H]at O;have T:=Go.Bd.foldE_out (au m) m.length (f:=f) (cost:=cost) (rest:=rest) (st:=Y) H;have ih:=hIH v Z H;have en:(((l.length+1:Nat):Int)-1).toNat=l.length:=xA;have hT:(l.map aG++[aG v]).take l.length=l.map aG:=List.take_left' (uC ..);rcases A:dp (au m) m.length f l cost rest Y v with _|⟨b0,k0⟩
        all_goals
         rw[A]at T ih;have e3:dp (au m) m.length f l cost rest Y (v+1)=dW (au m) m.length f (l++[v]) (cost+dy m l v m.length) (rest-dw m l v m.length) _:=T;rw[lA,<-e3]at ih;obtain⟨⟨b2,k2⟩,M⟩:∃s,dp (au m) m.length f l cost rest Y (v+1)=some s:=by
          rw[e3];exact Go.Bd.ext_some f (l++[v]) (hp.snoc Z H) _ _ _
         rw[M]at ih e3;simp only[bPV,lI,uH,uV,uU,uO,uS,uY,yU]at ih|-
        ·refine ac kO (ae @aA) (ae O) ?_;refine aq (λ(w:Nat)=>w<=m.length) (λ w=>[(0, .ptr 1000 0 0 0),(1, .int cost),(2, .int rest),(6, .int v),(7, .int (dy m l v w)),(8, .int (dw m l v w)),(51, .d (am m)),(52, .int m.length),(53, .int v),(65, .d (am m)),(66, .int m.length),(67, .int w)]) (λ w=>[(1000, .cells [.d (am m), .ref 901 1 0 l.length l.length, .nilS, .int 0]),(1001, .gone),(901, .row 1 (l.map aG))]) (λ w=>m.length-w) 0 ?_ ?_ ?_
         ·exact uF _
         ·exact eL [] _ _ (by refine⟨?_,?_⟩<;>(repeat' first|exact fmn|refine fmc ⟨(by first|rfl|(simp(disch:=omega) only[go_sem,simprocAttr,inL,dy,dw,sm];first|done|omega|(congr 1;done))),?_⟩);done)
         ·intro w hw;have b1:0<=dy m l v w/\dy m l v w<=1000000*w:=Go.Bd.more_bounds K.small l Z w hw;have b2:0<=dw m l v w/\dw m l v w<=1000000*w:=Go.Bd.less_bounds K.small l Z w hw;rcases uD w m.length with N|hgw
          ·obtain⟨p,G,hp2,F,hp4,hp5⟩:=K.get Z N;obtain⟨q,E,hq2,C,hq4,hq5⟩:=K.get N Z;have U:=pB l w;by_cases L:w=v
           ·have T:=nu (m:=m) (l:=l) (v:=v) (k:=w) (λ h=>h.1 L);have R:=nr (m:=m) (l:=l) (v:=v) (k:=w) (λ h=>h.1 L);have V:(w:Int)=v:=xA;refine ac kO (ae V) aa ?_;refine⟨w+1,?_,kN (ai T R) [],?_⟩
            ·omega
            ·omega
           ·have V:¬(w:Int)=v:=xA;by_cases S:w∈l
            ·have T:=nu (m:=m) (l:=l) (v:=v) (k:=w) (λ h=>h.2 S);have R:=nr (m:=m) (l:=l) (v:=v) (k:=w) (λ h=>h.2 S);rw[uZ S]at U;refine ac kO (ai V @aA) (ae U) ?_;refine⟨w+1,?_,kN (ai T R) [],?_⟩
             ·omega
             ·omega
            ·have T:=tK (m:=m) (l:=l) (v:=v) (k:=w) ⟨L,S⟩;have R:=tE (m:=m) (l:=l) (v:=v) (k:=w) ⟨L,S⟩;rw[uW S]at U;refine ac kO (bV V @aA G F E C @rE) (ae U) ?_;refine⟨w+1,?_,kN (ai T R) [],?_⟩
             ·omega
             ·omega
          ·have:w=m.length:=xA;subst this
           repeat' first|refine bt rfl ?_|refine aV ?_|refine wR ?_|refine rcM [(1001,125),(2000,904)] (ih) rfl ?_|(refine bB rfl rfl (λ Q=>?_) (λ Q=>?_)<;>try simp only[hcL]at Q)|(refine bA _ rfl rfl (λ Q=>?_) (λ Q=>?_)<;>(try simp only[hcL]at Q)<;>try omega)|simp(disch:=omega) only[go_sem,simprocAttr,roomy,aA,en,kC]|exact ji v|apply And.intro|omega|decide+kernel
           refine⟨v+1,?_,?_,?_⟩
           ·omega
           ·try dsimp only
            rw[M];exact cI.2 (Ent.trans (tm 904 1 _ l.length rfl) (Ent.trans (tl 1000 1 904 1 0 l.length (l.length+1) l.length rfl rfl xA) (cI.1 (eL [(901,904)] _ _ (by refine⟨?_,?_⟩<;>(repeat' first|exact yB _|refine uM.2 ⟨(by first|rfl|(simp(disch:=omega) only[go_sem,simprocAttr,inL,hT,bPV,lI,As,kX];first|done|omega|(congr 1;done))),?_⟩);done)))))
           ·omega
        ·refine ac kO (ae @aA) (ae O) ?_;refine aq (λ(w:Nat)=>w<=m.length) (λ w=>[(0, .ptr 1000 0 0 0),(1, .int cost),(2, .int rest),(6, .int v),(7, .int (dy m l v w)),(8, .int (dw m l v w)),(51, .d (am m)),(52, .int m.length),(53, .int v),(65, .d (am m)),(66, .int m.length),(67, .int w)]) (λ w=>[(1000, .cells [.d (am m), .ref 901 1 0 l.length l.length, .d (br b0), .int k0]),(1001, .gone),(901, .row 1 (l.map aG))]) (λ w=>m.length-w) 0 ?_ ?_ ?_
         ·exact uF _
         ·exact eL [] _ _ (by refine⟨?_,?_⟩<;>(repeat' first|exact fmn|refine fmc ⟨(by first|rfl|(simp(disch:=omega) only[go_sem,simprocAttr,inL,dy,dw,sm];first|done|omega|(congr 1;done))),?_⟩);done)
         ·intro w hw;have b1:0<=dy m l v w/\dy m l v w<=1000000*w:=Go.Bd.more_bounds K.small l Z w hw;have b2:0<=dw m l v w/\dw m l v w<=1000000*w:=Go.Bd.less_bounds K.small l Z w hw;rcases uD w m.length with N|hgw
          ·obtain⟨p,G,hp2,F,hp4,hp5⟩:=K.get Z N;obtain⟨q,E,hq2,C,hq4,hq5⟩:=K.get N Z;have U:=pB l w;by_cases L:w=v
           ·have T:=nu (m:=m) (l:=l) (v:=v) (k:=w) (λ h=>h.1 L);have R:=nr (m:=m) (l:=l) (v:=v) (k:=w) (λ h=>h.1 L);have V:(w:Int)=v:=xA;refine ac kO (ae V) aa ?_;refine⟨w+1,?_,kN (ai T R) [],?_⟩
            ·omega
            ·omega
           ·have V:¬(w:Int)=v:=xA;by_cases S:w∈l
            ·have T:=nu (m:=m) (l:=l) (v:=v) (k:=w) (λ h=>h.2 S);have R:=nr (m:=m) (l:=l) (v:=v) (k:=w) (λ h=>h.2 S);rw[uZ S]at U;refine ac kO (ai V @aA) (ae U) ?_;refine⟨w+1,?_,kN (ai T R) [],?_⟩
             ·omega
             ·omega
            ·have T:=tK (m:=m) (l:=l) (v:=v) (k:=w) ⟨L,S⟩;have R:=tE (m:=m) (l:=l) (v:=v) (k:=w) ⟨L,S⟩;rw[uW S]at U;refine ac kO (bV V @aA G F E C @rE) (ae U) ?_;refine⟨w+1,?_,kN (ai T R) [],?_⟩
             ·omega
             ·omega
          ·have:w=m.length:=xA;subst this
           repeat' first|refine bt rfl ?_|refine aV ?_|refine wR ?_|refine rcM [(1001,125),(2000,904)] (ih) rfl ?_|(refine bB rfl rfl (λ Q=>?_) (λ Q=>?_)<;>try simp only[hcL]at Q)|(refine bA _ rfl rfl (λ Q=>?_) (λ Q=>?_)<;>(try simp only[hcL]at Q)<;>try omega)|simp(disch:=omega) only[go_sem,simprocAttr,roomy,aA,en,kC]|exact ji v|apply And.intro|omega|decide+kernel
           refine⟨v+1,?_,?_,?_⟩
           ·omega
           ·try dsimp only
            rw[M];exact cI.2 (Ent.trans (tm 904 1 _ l.length rfl) (Ent.trans (tl 1000 1 904 1 0 l.length (l.length+1) l.length rfl rfl xA) (cI.1 (eL [(901,904)] _ _ (by refine⟨?_,?_⟩<;>(repeat' first|exact yB _|refine uM.2 ⟨(by first|rfl|(simp(disch:=omega) only[go_sem,simprocAttr,inL,hT,bPV,lI,As,kX];first|done|omega|(congr 1;done))),?_⟩);done)))))
           ·omega
      ·have:v=m.length:=xA;subst this;rw[hend];simp only[bPV,lI];refine ac kO aa aa ?_;refine⟨_,cI.1 (eL [(2000,901)] [] [(1000, .cells [.d (am m), .ref 2000 1 0 l.length l.length, .d (br be), .int ke]),(1001, .gone),(2000, .row 1 (l.map aG))] (by constructor<;>(repeat' first|exact yB _|refine uM.2 ⟨rfl,?_⟩);done)),?_⟩;exact⟨⟨[],rfl,trivial⟩,uM.2 ⟨rfl,uM.2 ⟨rfl,uM.2 ⟨rfl,yB _⟩⟩⟩⟩
  ·exact D2 m (f+1) l st cost rest hi xA J (by rw[Go.Bd.ext_foldE,if_pos J])
end Go.Proofs.YtjjbhjnpeenbkaaGreatDoor
namespace Go.Proofs.YtjjbhjnpeenbkaaGreatDoor
open Go Go.PS Go.Proofs
open Go.Bd (sm aI cu low Part co cJ b7 dW dp fu ft fK k8)
set_option maxRecDepth 100000
attribute [local irreducible] ao wpG ah ax
theorem LB (m:List (List Int)):dW (au m) m.length m.length [] 0 (low (au m) m.length []) none=some (df m):=by
 have h:=Go.Bd.ext_best (au m) m.length [] (oN _) none;rw[q7]at h;exact h
theorem sL (m:List (List Int)):ah Tryz.prog 110 [am m] (if okM m then .tup [br (df m).1, .int (df m).2, .int 0]else .tup [.sl [], .int 0, .int 1]):=by
 have S:=B2 m;rcases h:okM m with _|_<;>rw[h]at S
 ·rw[if_neg xC];refine kE Tryz.func110 ?_;intro V B X Q;refine ac kO aa (ae S) ?_;exact⟨_,rfl,dH rfl,ap rfl,ap rfl,trivial⟩
 ·rw[if_pos rfl];obtain⟨Y,R⟩:=rU h;have T:=Jf m h;have O:0<=low (au m) m.length []/\low (au m) m.length []<=64000000:=by
   rw[Fz];have:=Fx Y R m.length (uI _);omega
  have U:=LC m Y R m.length [] (oN _) none 0 (low (au m) m.length []) ⟨λ s Y=>(by cases Y), .inr rfl,xA,xB,by simp only[uU];omega,xA⟩;rw[lA,LB]at U;simp only[bPV,lI,uU,uY]at U;refine kE Tryz.func110 ?_;intro V B X Q
  repeat' first|refine bt rfl ?_|refine aV ?_|refine xY 4 rfl (λ _=>false) ck ?_|(refine rc (S) rfl ?_ ?_;(· first|rfl|simp(disch:=omega) only[go_sem,simprocAttr]))|(refine bB rfl rfl (λ Z=>?_) (λ Z=>?_)<;>try simp only[hcL]at Z)|(refine bA _ rfl rfl (λ Z=>?_) (λ Z=>?_)<;>(try simp only[hcL]at Z)<;>try omega)|simp(disch:=omega) only[go_sem,simprocAttr]|apply And.intro|omega|decide+kernel
  refine aC _ (dm 11 1 901 1 rfl rfl rfl) ?_;refine ac kO aa (ai T (dM [(1000,11),(1001,901),(2000,902)] U)) ?_;exact⟨_,rfl,dH rfl,ap rfl,ap rfl,trivial⟩
end Go.Proofs.YtjjbhjnpeenbkaaGreatDoor
namespace Go.Proofs.YtjjbhjnpeenbkaaGreatDoor
open Go Go.PS Go.Proofs
open Go.Bd (ix gx je eX cU p9)
set_option maxRecDepth 100000
attribute [local irreducible] ao wpG ah ax
theorem wO {l:List Int}{v:Int}(h:v∈l):ix l v=((l.idxOf v:Nat):Int):=by rw[ix,if_pos h]
theorem cT {l:List (List Int)}{k:Nat}{y:List Int}(h:l[k]? =some y):aF l k=y:=by rw[aF,h];rfl
theorem oF {l:List (List Int)}{k:Nat}(h:l.length<=k):aF l k=[]:=by rw[aF,uL h];rfl
def okW (a:Lv)(w:Int):Bool:=aH a&&decide (0<=w/\w<=1000)
def tB (a:Lv)(Z:List (List Int))(k:Nat):Int:=a8 (λ i=>(gx (aF Z i) (aF a.2.1 i):Int)) k
def m7 (a:Lv)(Z:List (List Int))(w:Int):Int:=if okW a w then bG a+w*tB a Z a.2.1.length else -1
theorem E5 {a:Lv}(h:aH a=true)(k:Nat):(aF a.2.1 k).length<=512:=by
 obtain⟨V,U⟩:=cF h;rcases uD k a.2.1.length with Y|Z
 ·obtain⟨y,X⟩:=ak Y;rw[cT X];have:=cV (uA X);omega
 ·rw[oF Z];simp
def bp (g:Nat->Int)(n:Nat):List Int:=(List.range n).map g
def dY (f g:Nat->Int)(n b:Nat):List Int:=bp (λ v=>if v<b then g v else f v) n
theorem iG (g:Nat->Int)(n:Nat):(bp g n).length=n:=by simp[bp]
theorem lZ {g:Nat->Int}{n v:Nat}(h:v<n):(bp g n)[v]? =some (g v):=by simp[bp,h]
theorem lY {f g:Nat->Int}{n:Nat}(h:∀v,v<n->f v=g v):bp f n=bp g n:=yK λ v Z=>h v (yD.1 Z)
theorem pQ (f g:Nat->Int)(n b:Nat):(dY f g n b).length=n:=iG _ _
theorem xg (f g:Nat->Int)(n:Nat):dY f g n 0=bp f n:=lY λ v _=>if_neg xA
theorem xd (f g:Nat->Int)(n:Nat):dY f g n n=bp g n:=lY λ v h=>if_pos h
theorem xe {f g:Nat->Int}{n b:Nat}(h:b<n):(dY f g n b)[b]? =some (f b):=by rw[dY,lZ h,if_neg xA]
theorem xf {f g:Nat->Int}{n b:Nat}(h:b<n):(dY f g n b).set b (g b)=dY f g n (b+1):=by
 refine yX λ v=>?_
 rw[qF,pQ];by_cases c:b=v
 ·subst c;rw[if_pos rfl,if_pos h,dY,lZ h,if_pos xA]
 ·rw[if_neg c];by_cases Z:v<n
  ·rw[dY,dY,lZ Z,lZ Z];by_cases Y:v<b
   ·rw[if_pos Y,if_pos xA]
   ·rw[if_neg Y,if_neg xA]
  ·rw[uL (by rw[pQ];omega),uL (by rw[pQ];omega)]
theorem yn (n:Nat):List.replicate n (D.int 0)=(bp (λ _=>0) n).map D.int:=by
 rw[bp,gU];refine yX λ v=>?_
 by_cases c:v<n<;>simp[gA,c]
def qn (Z y:List Int)(w:Int)(u v:Nat):Int:=if 0<=ix Z (at0 y v)/\ix Z (at0 y v)<ix Z (at0 y u)then w else 0
def cQ (i:Nat)(t:Nat):Int:=if t=0 then(i:Int)-1 else(i:Int)+1
def fi (a:Lv)(Z y:List Int)(w:Int)(i:Nat):Nat->Nat->Nat->Int
 |0,u,v=>qn Z y w u v
 |t+1,u,v=>fi a Z y w i t u v+au (bb a i (cQ i t)) u v
def sqM (g:Nat->Nat->Int)(n:Nat):List (List Int):=(List.range n).map λ u=>bp (g u) n
def stM (a:Lv)(Z y:List Int)(w:Int)(i:Nat):List (List Int):=sqM (fi a Z y w i 2) y.length
theorem vI {m:List (List Int)}(h:Sq m)(u v:Nat):0<=au m u v/\au m u v<=1000000:=by
 by_cases Y:u<m.length
 ·by_cases U:v<m.length
  ·obtain⟨_,_,_,_,X,V⟩:=h.get Y U;exact⟨X,V⟩
  ·obtain⟨p,Z⟩:=ak Y;have:=h.row p (uA Z);rw[au,cT Z,at0,uK,uL xA];decide
 ·rw[au,oF xA];simp[at0]
theorem qy (a:Lv)(Z y:List Int){w:Int}(h:0<=w/\w<=1000)(i:Nat):∀t u v,0<=fi a Z y w i t u v/\fi a Z y w i t u v<=1000+1000000*t
 |0,u,v=>by
  rw[fi,qn];split<;>omega
 |t+1,u,v=>by
  have Y:=qy a Z y h i t u v;have:=vI (qv a i (cQ i t)) u v;rw[fi];omega
theorem Q2 (g:Nat->Int)(b:Nat):bp g (b+1)=bp g b++[g b]:=by rw[bp,qE,uO];rfl
end Go.Proofs.YtjjbhjnpeenbkaaGreatDoor
namespace Go.Proofs.YtjjbhjnpeenbkaaGreatDoor
open Go Go.PS Go.Proofs
open Go.Bd (ix gx je eX aI mN ze pL Part co)
theorem Ky {g:Nat->Nat->Int}{n u v:Nat}(h:u<n)(Z:v<n):au (sqM g n) u v=g u v:=by
 rw[au,sqM,aF,uJ,yZ h];simp only[qB,yN];rw[at0,uK,lZ Z];rfl
theorem uu (a:Lv)(Z y:List Int)(w:Int)(i:Nat):(stM a Z y w i).length=y.length:=by simp[stM,sqM]
def yG (y:List Int)(k:Nat):Int:=(y[k]?).getD 0
theorem TX (Z y:List Int)(w:Int)(u v:Nat):qn Z y w u v=w*pL Z (yG y) u v:=by
 have e:∀k:Nat,at0 y k=yG y k:=λ k=>by rw[at0,uK];rfl
 rw[qn,pL,e,e];by_cases X:yG y u∈Z<;>by_cases Y:yG y v∈Z
 ·rw[wO X,wO Y];by_cases V:Z.idxOf (yG y v)<Z.idxOf (yG y u)
  ·rw[if_pos ⟨xA,xA⟩,if_pos ⟨X,Y,V⟩,Int.mul_one]
  ·rw[if_neg (λ h=>V xA),if_neg (λ h=>V h.2.2),Ax]
 ·rw[if_neg (λ h=>by
   have:=h.1;rw[ix,if_neg Y]at this;omega),if_neg (λ h=>Y h.2.1),Ax]
 ·rw[if_neg (λ h=>by
   have:=h.2;rw[wO Y,ix,if_neg X]at this;omega),if_neg (λ h=>X h.1),Ax]
 ·rw[if_neg (λ h=>by
   have:=h.1;rw[ix,if_neg Y]at this;omega),if_neg (λ h=>X h.1),Ax]
theorem Jy (a:Lv)(Z y:List Int)(w:Int)(i:Nat)(u v:Nat):fi a Z y w i 2 u v=w*pL Z (yG y) u v+ol a i u v:=by
 rw[<-TX];show qn Z y w u v+au (bb a i ((i:Int)-1)) u v+au (bb a i ((i:Int)+1)) u v=_;rw[ol];omega
theorem SU (a:Lv)(Z y:List Int)(w:Int)(i:Nat){o:List Nat}(h:Part y.length 0 o):
  aI (au (stM a Z y w i)) o=w*aI (pL Z (yG y)) o+aI (ol a i) o:=by
 rw[<-ze,<-mN];refine zb h.nd λ u Y v X _=>?_
 rw[stM,Ky (h.lt u Y) (h.lt v X),Jy]
theorem nk {a:Lv}(h:aH a=true){i:Nat}{y:List Int}(Z:a.2.1[i]? =some y):y.Nodup:=
 (jO.1 (lz h)).1 y (uA Z)
theorem xQ {y:List Int}{o:List Nat}(h:y.Nodup)(Z:Part y.length 0 o):(aW y o).Perm y:=
 (Bi (Gd h Z) h).2 λ _=>Gc Z
theorem QN {a:Lv}(Z:aH a=true){i:Nat}{y:List Int}{o:List Nat}(h:a.2.1[i]? =some y)(X:Part y.length 0 o):h9 a i (aW y o)=(dG a i (aW y o),0):=by
 have Y:=(uB.1 h).1;rw[h9,if_neg (by rw[Z];decide),if_neg xA,uK,h,yN,if_neg (by rw[y4 (xQ (nk Z h) X)];simp)];rfl
end Go.Proofs.YtjjbhjnpeenbkaaGreatDoor
namespace Go.Proofs.YtjjbhjnpeenbkaaGreatDoor
open Go Go.PS Go.Proofs
open Go.Bd (sm ix gx je eX aI Part co)
set_option maxRecDepth 100000
attribute [local irreducible] ao wpG ah ax
theorem C0 (a:Lv)(i f:Int)(u v:Nat):au (bb a i f) u v<=((a.2.2.1.length*a.2.2.1.length:Nat):Int):=by
 have V:au [] u v=0:=by simp[au,aF,at0]
 rw[bb];split
 ·by_cases Z:u<(cj a.2.1 a.2.2.1 i f (ei a i)).length
  ·by_cases X:v<(cj a.2.1 a.2.2.1 i f (ei a i)).length
   ·rw[rb Z X,io];split
    ·omega
    ·have h:∀k,(aF (cj a.2.1 a.2.2.1 i f (ei a i)) k).length<=a.2.2.1.length:=λ k=>by
      by_cases Y:k<ei a i
      ·rw[cj,aF,uJ,yZ Y];exact pE ..
      ·rw[oF (by simp[cj];omega)];exact uF _
     have:=gY (vw _ _) (jW (h u) (h v));omega
   ·have:au (eo (cj a.2.1 a.2.2.1 i f (ei a i))) u v=0:=by
     rw[au,eo,aF,uJ,yZ Z];simp only[qB,yN];rw[at0,uK,uL (by simp;omega)];rfl
    omega
  ·have:au (eo (cj a.2.1 a.2.2.1 i f (ei a i))) u v=0:=by
    rw[au,oF (by rw[eo];simp;omega)];simp[at0]
   omega
 ·rw[V];omega
theorem SS {a:Lv}{Z y:List Int}{w:Int}{i:Nat}(X:0<=w/\w<=1000)(h:a.2.2.1.length<=700)(U:y.length<=8):okM (stM a Z y w i)=true:=by
 refine SQ ⟨by rw[uu];omega,λ p Y=>?_,λ p Y x V=>?_⟩ (by rw[uu];exact U)
 ·rw[uu];obtain⟨u,_,rfl⟩:=uR.1 Y;exact iG _ _
 ·obtain⟨u,_,rfl⟩:=uR.1 Y;obtain⟨v,_,rfl⟩:=uR.1 V;have O:a.2.2.1.length*a.2.2.1.length<=490000:=gY (jW h h) xC;have T:=C0 a i ((i:Int)-1) u v;have S:=C0 a i ((i:Int)+1) u v;have R:=(qy a Z y X i 2 u v).1;have Q:=(qy a Z y X i 0 u v).2;have e:fi a Z y w i 2 u v=fi a Z y w i 0 u v+au (bb a i ((i:Int)-1)) u v+au (bb a i ((i:Int)+1)) u v:=rfl;omega
theorem B9 (m:List (List Int)):Part m.length 0 (df m).1/\(df m).2=aI (au m) (df m).1:=by
 obtain⟨h,_,Z⟩:=Go.Bd.best_of (au m) m.length [] (oN _) _ (q7 m);exact⟨h,Z⟩
def J8 (a:Lv)(Z:List (List Int))(w:Int)(i:Nat):Lv:=
 if(df (stM a (aF Z i) (aF a.2.1 i) w i)).2<aI (au (stM a (aF Z i) (aF a.2.1 i) w i)) (List.range (aF a.2.1 i).length)then dG a i (aW (aF a.2.1 i) (df (stM a (aF Z i) (aF a.2.1 i) w i)).1)else a
theorem KT (l:List Int)(T:l.length<=1000000):ax Tryz.prog 214 [.d (aj l)] [(2000, .dead)] (.ref 2000 1 0 l.length l.length) [(2000, .row 1 (l.map D.int))]:=by
 rcases gJ (l=[])with rfl|Z
 ·refine kM Tryz.func214 ?_;intro B X U;refine fc ?_;refine ac kO aa aa ?_;refine sf 4 rfl ?_;intro b;cases b
  ·repeat' first|refine bt rfl ?_|refine aV ?_|refine dA (Nat.beq 5) ck ?_|(refine bB rfl rfl (λ h=>?_) (λ h=>?_)<;>try simp only[hcL]at h)|(refine bA _ rfl rfl (λ h=>?_) (λ h=>?_)<;>(try simp only[hcL]at h)<;>try omega)|simp(disch:=omega) only[go_sem,simprocAttr,roomy]|apply And.intro|omega|decide+kernel
   refine⟨_,cI.1 (kN (L:=[(2, .ref 2000 1 0 0 0)]) (M:=[(2000, .row 1 [])]) aa [(2000,7)]),?_⟩;exact⟨rfl,uM.2 ⟨rfl,yB _⟩⟩
  ·refine ac kO aa aa ?_;refine⟨_,Ent.trans (dg 2 7 1 rfl rfl) (cI.1 (eL [(2000,7)] [(2, .ref 2000 1 0 0 0)] [(2000, .row 1 [])] (by constructor<;>(repeat' first|exact yB _|refine uM.2 ⟨rfl,?_⟩)))),?_⟩;exact⟨rfl,uM.2 ⟨rfl,yB _⟩⟩
 ·have V:(l.map D.int).isEmpty=false:=by simpa using Z
  have Y:0<l.length:=An.2 Z;refine kM Tryz.func214 ?_;intro B X U;refine fc ?_
  repeat' first|refine bt rfl ?_|refine aV ?_|refine dA (Nat.beq 5) ck ?_|(refine bB rfl rfl (λ h=>?_) (λ h=>?_)<;>try simp only[hcL]at h)|(refine bA _ rfl rfl (λ h=>?_) (λ h=>?_)<;>(try simp only[hcL]at h)<;>try omega)|simp(disch:=omega) only[go_sem,simprocAttr,V,roomy,aA]|exact fb l|apply And.intro|omega|decide+kernel
  refine⟨_,cI.1 (kN (L:=[(2, .ref 2000 1 0 l.length l.length)]) (M:=[(2000, .row 1 (l.map D.int))]) aa [(2000,7)]),?_⟩;exact⟨rfl,uM.2 ⟨rfl,yB _⟩⟩
def nE (m:List (List Int))(A:Nat):Int:=sm (λ A=>sm (λ j=>au m A (A+1+j)) (m.length-1-A)) A
theorem FT {m:List (List Int)}(h:Sq m)(A j:Nat):0<=sm (λ j=>au m A (A+1+j)) j/\sm (λ j=>au m A (A+1+j)) j<=1000000*j:=Go.Bd.sm_bounds j λ k _=>vI h A (A+1+k)
theorem Oo {m:List (List Int)}(h:Sq m)(Z:m.length<=8)(A:Nat):0<=nE m A/\nE m A<=8000000*A:=
 Go.Bd.sm_bounds A λ k _=>by
  have:=FT h k (m.length-1-k);omega
theorem HA (l m:List Int):ah Tryz.prog 31 [aj l,aj m] (.bool (decide (l=m))):=by
 refine kE Tryz.func31 ?_;intro Z B X M;have Q:=bI 0 Z rfl;have O:=bI 1 Z rfl;rw[uC]at Q O;by_cases Y:l.length=m.length
 ·refine ac kO aa aa ?_;refine aq (λ(k:Nat)=>k<=l.length/\l.take k=m.take k) (λ k=>[(0, .d (aj l)),(1, .d (aj m)),(5, .int k)]) (λ k=>[]) (λ k=>l.length-k) 0 ?_ ?_ ?_
  ·exact⟨uF _,rfl⟩
  ·exact kN aa []
  ·rintro k ⟨N,h⟩;rcases uD k l.length with V|U
   ·obtain⟨p,T⟩:=ak V;obtain⟨q,S⟩:=ak (Y▸V);refine kw kO (ai T S) aa ?_
    repeat' first|exact True.intro|refine Bn.mk ?_ ?_|intro R
    ·refine ay ?_;rw[uW (mP T S R)]
    ·refine⟨k+1,?_,eL [] _ _ (by refine⟨?_,?_⟩<;>(repeat' first|exact fmn|refine fmc ⟨(by first|rfl|(simp(disch:=omega) only[go_sem,simprocAttr,inL];first|done|omega|(congr 1;done))),?_⟩);done),?_⟩
     ·exact⟨xA,by rw[aM T,aM S,h,R]⟩
     ·omega
   ·refine ac kO aa aa ?_;refine ay ?_;rw[uE U,uE xA]at h;simp[h]
 ·refine ac kO aa aa ?_;refine ay ?_;rw[uW];rintro rfl;exact Y rfl
theorem sum_nil {a:Lv}(h:aH a=true):m7 a [] 7=bG a:=by
 have Y:∀k,tB a [] k=0:=by
  intro k
  induction k with
  |zero=>rfl
  |succ k X=>
   have s:tB a [] (k+1)=tB a [] k+(gx (aF [] k) (aF a.2.1 k):Int):=rfl;have V:∀(l:List Int) i,eX [] l i=[]:=by
    intro l i
    induction i with
    |zero=>rfl
    |succ i Z=>rw[eX];split<;>simp[Z]
   have U:aF [] k=[]:=oF (uF _);rw[s,X,U,gx,V];rfl
 rw[m7,if_pos (by rw[okW,h];decide),Y];omega
end Go.Proofs.YtjjbhjnpeenbkaaGreatDoor
namespace Go.Proofs.YtjjbhjnpeenbkaaGreatDoor
open Go Go.PS Go.Proofs
open Go.Bd (eX)
set_option maxRecDepth 100000
attribute [local irreducible] ao wpG ah ax
end Go.Proofs.YtjjbhjnpeenbkaaGreatDoor
namespace Go.Proofs.YtjjbhjnpeenbkaaGreatDoor
open Go Go.PS Go.Proofs
open Go.Bd (gx eX aI Part)
theorem uh {a:Lv}(Y:aH a=true){i:Nat}{y z:List Int}(h:a.2.1[i]? =some y)(X:z.Perm y):h9 a i z=(dG a i z,0):=by
 have Z:=(uB.1 h).1;rw[h9,if_neg (by rw[Y];decide),if_neg xA,uK,h,yN,if_neg (by rw[y4 X];simp)];rfl
theorem Pb {a:Lv}(Z:aH a=true){i:Nat}{y z:List Int}(Y:a.2.1[i]? =some y)(X:z.Perm y):aH (dG a i z)=true:=by
 have h:=uh Z Y X;have:=QO (a:=a) (i:=i) (o:=z) (by rw[h]);rw[h]at this;exact this
structure Kin (a b:Lv):Prop where
 ok:aH b=true
 wd:wide b
 len:b.2.1.length=a.2.1.length
 arcs:b.2.2.1=a.2.2.1
 perm:∀k,(aF b.2.1 k).Perm (aF a.2.1 k)
theorem Kin.refl {a:Lv}(h:aH a=true)(Z:wide a):Kin a a:=⟨h,Z,rfl,rfl,λ _=>Ch _⟩
theorem Kin.put {a b:Lv}(h:Kin a b){i:Nat}{y z:List Int}(Z:b.2.1[i]? =some y)(Y:z.Perm y):Kin a (dG b i z):=by
 have X:=(uB.1 Z).1;have T:y.length<=512:=by have:=E5 h.ok i;rw[cT Z]at this;exact this
 refine⟨Pb h.ok Z Y,?_,?_,h.arcs,λ k=>?_⟩
 ·have:=QP (a:=b) (i:=i) (o:=z) h.wd (by have:=Y.length_eq;omega);rw[uh h.ok Z Y]at this;exact this
 ·rw[<-h.len];exact yJ
 ·have V:(dG b i z).2.1=b.2.1.set i z:=rfl;by_cases c:k=i
  ·subst c;have U:aF (b.2.1.set k z) k=z:=by rw[aF,qF,if_pos rfl,if_pos X];rfl
   rw[V,U];have:=h.perm k;rw[cT Z]at this;exact Y.trans this
  ·have:aF (b.2.1.set i z) k=aF b.2.1 k:=by rw[aF,aF,qF,if_neg (λ h=>c h.symm)]
   rw[V,this];exact h.perm k
theorem Kin.lay {a b:Lv}(h:Kin a b){k:Nat}(Y:k<a.2.1.length):b.2.1[k]? =some (aF b.2.1 k):=by
 obtain⟨y,Z⟩:=ak (l:=b.2.1) (k:=k) (by have:=h.len;omega);rw[cT Z];exact Z
def ce (b:Lv)(Z:List (List Int))(w:Int):Nat->Lv
 |0=>b
 |k+1=>if 8<(aF (ce b Z w k).2.1 k).length then ce b Z w k else J8 (ce b Z w k) Z w k
end Go.Proofs.YtjjbhjnpeenbkaaGreatDoor
