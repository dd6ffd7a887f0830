/- Branch and bound: extend, all of it. -/
import Derived.Test.YtjjbhjnpeenbkaaGreatDoorSo
import Derived.Test.YtjjbhjnpeenbkaaGreatDoorPSMac
import Derived.Test.YtjjbhjnpeenbkaaGreatDoorN
import Derived.Test.YtjjbhjnpeenbkaaGreatDoorD
import Derived.Test.YtjjbhjnpeenbkaaGreatDoorTypes
import Derived.Test.YtjjbhjnpeenbkaaGreatDoorPSMerge
import Derived.Test.YtjjbhjnpeenbkaaGreatDoorPSFam
set_option linter.unusedSimpArgs false
set_option linter.unusedVariables false
set_option maxHeartbeats 16000000
namespace Go.Proofs.YtjjbhjnpeenbkaaGreatDoor
open Go Go.PS Go.Proofs
open Go.Bd (sm Zan Zby low Part Zbf Za5 ZbK Zbo Zcx ZdG ZcG)
set_option maxRecDepth 100000
attribute [local irreducible] Zab wpG Zaa Zaf
def Zbu (m:List (List Int))(l:List Nat)(v k:Nat):Int:=sm (λ w=>if w≠v/\w∉l then Zag m v w else 0) k
def Zbt (m:List (List Int))(l:List Nat)(v k:Nat):Int:=sm (λ w=>if w≠v/\w∉l then min (Zag m v w) (Zag m w v)else 0) k
theorem ZpQ {ids:List Nat}{S:St}{o o2:Nat}(h1:o∈ids)(h2:o2<1000\/2000<=o2)(h:ZbJ ids S.objs):
  ZbJ ids (λ x=>if x=o then .gone else if x=o2 then(S.objs o).ren (mvG o o2)else(S.objs x).ren (mvG o o2)):=λ i a b hi=>by
 dsimp only;rw[if_neg (λ e:i=o=>hi (e▸h1)),if_neg (by omega),h i a b hi];rfl
theorem ZfT {m:List (List Int)}{l:List Nat}{v k:Nat}(h:¬(k≠v/\k∉l)):Zbu m l v (k+1)=Zbu m l v k:=by rw[Zbu,sm,if_neg h,jU];rfl
theorem ZjL {m:List (List Int)}{l:List Nat}{v k:Nat}(h:k≠v/\k∉l):Zbu m l v (k+1)=Zbu m l v k+Zag m v k:=by rw[Zbu,sm,if_pos h];rfl
theorem ZfS {m:List (List Int)}{l:List Nat}{v k:Nat}(h:¬(k≠v/\k∉l)):Zbt m l v (k+1)=Zbt m l v k:=by rw[Zbt,sm,if_neg h,jU];rfl
theorem ZjG {m:List (List Int)}{l:List Nat}{v k:Nat}(h:k≠v/\k∉l):Zbt m l v (k+1)=Zbt m l v k+min (Zag m v k) (Zag m k v):=by rw[Zbt,sm,if_pos h];rfl
theorem ZtG (m:List (List Int))(hs:Sq m)(h8:m.length<=8):∀(f:Nat) (l:List Nat),Part m.length f l->∀(st:Option (List Nat×Int)) (cost rest:Int),ExtIn m l st cost rest->ZeC m f l st cost rest:=by
 intro f
 induction f with
 |zero=>
  intro l hp st cost rest hi;have hll:=hp.len;rcases hsh:ZcG st (cost+rest)with _|_
  ·exact ZtH m hs h8 l hp st cost rest hi hsh
  ·exact Zoj m 0 l st cost rest hi (by omega) hsh (by rw[ZbK,if_pos hsh])
 |succ f IH=>
  intro l hp st cost rest hi;have hll:=hp.len;rcases hsh:ZcG st (cost+rest)with _|_
  ·rw[ZeC,Go.Bd.ext_foldE,if_neg (by rw[hsh];decide)];have hlen:=Zt8 (cost:=cost) (rest:=rest) (c:=Zag m) hp hi.len;have hIH:∀v,v<m.length->v∉l->ZeC m f (l++[v]) (Zbo (Zag m) m.length f l cost rest st v) (cost+Zbu m l v m.length) (rest-Zbt m l v m.length):=λ v hv hm=>by
    have b1:0<=Zbu m l v m.length/\Zbu m l v m.length<=1000000*m.length:=Go.Bd.more_bounds hs.small l hv m.length (uH _);have b2:0<=Zbt m l v m.length/\Zbt m l v m.length<=1000000*m.length:=Go.Bd.less_bounds hs.small l hv m.length (uH _);have b3:=hi.c0;have b4:=hi.c1;have b5:=hi.r0;have b6:=hi.r1;refine IH _ (hp.snoc hv hm) _ _ _ ⟨hlen v (by omega), .inl (by omega),by omega,?_,?_,by omega⟩
    ·rw[uC,qI,zW];simp only[uV,uY];omega
    ·rw[uC,qI,zW];simp only[uV,uY];omega
   obtain⟨st0,hst0⟩:∃st0,st=st0:=⟨_,rfl⟩;rw[hst0]at hlen hIH|-;obtain⟨hbl,hpos,c0,c1,r0,r1⟩:=hi;obtain⟨⟨be,ke⟩,hend⟩:∃s,Zbo (Zag m) m.length f l cost rest st0 m.length=some s:=by
    obtain⟨s,hx⟩:=Go.Bd.ext_some (c:=Zag m) (f+1) l hp cost rest st0;rw[Go.Bd.ext_foldE,if_neg (by rw[<-hst0,hsh];decide)]at hx;exact⟨s,hx⟩
   rw[hend]
   all_goals
    rw[<-hst0];rcases st with _|⟨b,k⟩
    all_goals simp only[bPV,lI]
    all_goals
     refine kM Tryz.func179 ?_
    all_goals intro B X w0
    all_goals refine ZcQ ?_
    ·have hnl:¬(l.length:Int)=m.length:=by omega
     refine kw1 kO (kc1 hnl) kc0 ?_;refine Zai (λ(v:Nat)=>v<=m.length) (λ v=>[(0, .ptr 1000 0 0 0),(1, .int cost),(2, .int rest),(51, .d (Zae m)),(52, .int m.length),(53, .int v)]) (λ v=>[(1000, .cells [.d (Zae m), .ref 901 1 0 l.length l.length,bPV (Zbo (Zag m) m.length f l cost rest st0 v), .int (lI (Zbo (Zag m) m.length f l cost rest st0 v))]),(1001, .gone),(901, .row 1 (l.map Zaw))]) (λ v=>m.length-v) 0 ?_ ?_ ?_
     ·exact uJ _
     ·try dsimp only
      rw[Go.Bd.foldE_zero,<-hst0];exact Zbg.2 (Ent.trans (Zh8 1001 901 rfl (by decide) (by decide)) (Zbg.1 (eL [] _ _ (by refine⟨?_,?_⟩<;>(repeat' first|exact yA _|refine uK.2 ⟨(by first|rfl|(simp(disch:=omega) only[go_sem,simprocAttr,inL,bPV,lI];first|done|omega|(congr 1;done))),?_⟩);done) (h7:=ZpQ (by simp) (by decide) (by repeat' first|exact Zfr|exact Zfs _ rfl|refine Zft rfl ?_)))))
     ·intro v hv;have hlv:=hlen v hv;rcases uF v m.length with hlt|hge
      ·have hin:=Zhe l v;by_cases hm:v∈l
       ·rw[yM hm]at hin;have e1:=Go.Bd.foldE_in (Zag m) m.length (f:=f) (cost:=cost) (rest:=rest) (st:=st0) hm;rcases hst:Zbo (Zag m) m.length f l cost rest st0 v with _|⟨b0,k0⟩<;>rw[hst]at e1<;>simp only[bPV,lI]
        all_goals
         refine kw1 kO (kc1 @Zat) (kc1 hin) ?_;refine⟨v+1,?_,?_,?_⟩
         ·omega
         ·try dsimp only
          rw[e1];exact kN (kc2 @bPV.eq_1 @lI.eq_1) []
         ·omega
       ·rw[yC hm]at hin;have e1:=Go.Bd.foldE_out (Zag m) m.length (f:=f) (cost:=cost) (rest:=rest) (st:=st0) hm;have ih:=hIH v hlt hm;have en:(((l.length+1:Nat):Int)-1).toNat=l.length:=by omega
        have hT:(l.map Zaw++[Zaw v]).take l.length=l.map Zaw:=List.take_left' (uE ..);rcases hst:Zbo (Zag m) m.length f l cost rest st0 v with _|⟨b0,k0⟩
        all_goals
         rw[hst]at e1 ih;have e3:Zbo (Zag m) m.length f l cost rest st0 (v+1)=ZbK (Zag m) m.length f (l++[v]) (cost+Zbu m l v m.length) (rest-Zbt m l v m.length) _:=e1;rw[ZeC,<-e3]at ih;obtain⟨⟨b2,k2⟩,hst2⟩:∃s,Zbo (Zag m) m.length f l cost rest st0 (v+1)=some s:=by
          rw[e3];exact Go.Bd.ext_some f (l++[v]) (hp.snoc hlt hm) _ _ _
         rw[hst2]at ih e3;simp only[bPV,lI,uC,uV,uY,yB,uX,yT,qO]at ih|-
        ·refine kw1 kO (kc1 @Zat) (kc1 hin) ?_;refine Zai (λ(w:Nat)=>w<=m.length) (λ w=>[(0, .ptr 1000 0 0 0),(1, .int cost),(2, .int rest),(6, .int v),(7, .int (Zbu m l v w)),(8, .int (Zbt m l v w)),(51, .d (Zae m)),(52, .int m.length),(53, .int v),(65, .d (Zae m)),(66, .int m.length),(67, .int w)]) (λ w=>[(1000, .cells [.d (Zae m), .ref 901 1 0 l.length l.length, .nilS, .int 0]),(1001, .gone),(901, .row 1 (l.map Zaw))]) (λ w=>m.length-w) 0 ?_ ?_ ?_
         ·exact uJ _
         ·exact eL [] _ _ (by refine⟨?_,?_⟩<;>(repeat' first|exact fmn|refine fmc ⟨(by first|rfl|(simp(disch:=omega) only[go_sem,simprocAttr,inL,Zbu,Zbt,sm];first|done|omega|(congr 1;done))),?_⟩);done)
         ·intro w hw;have b1:0<=Zbu m l v w/\Zbu m l v w<=1000000*w:=Go.Bd.more_bounds hs.small l hlt w hw;have b2:0<=Zbt m l v w/\Zbt m l v w<=1000000*w:=Go.Bd.less_bounds hs.small l hlt w hw;rcases uF w m.length with hlw|hgw
          ·obtain⟨p,hp1,hp2,hp3,hp4,hp5⟩:=hs.get hlt hlw;obtain⟨q,hq1,hq2,hq3,hq4,hq5⟩:=hs.get hlw hlt;have hcw:=Zhe l w;by_cases d1:w=v
           ·have e1:=ZfT (m:=m) (l:=l) (v:=v) (k:=w) (λ h=>h.1 d1);have e2:=ZfS (m:=m) (l:=l) (v:=v) (k:=w) (λ h=>h.1 d1);have d1I:(w:Int)=v:=by omega
            refine kw1 kO (kc1 d1I) kc0 ?_;refine⟨w+1,?_,kN (kc2 e1 e2) [],?_⟩
            ·omega
            ·omega
           ·have d1I:¬(w:Int)=v:=by omega
            by_cases d2:w∈l
            ·have e1:=ZfT (m:=m) (l:=l) (v:=v) (k:=w) (λ h=>h.2 d2);have e2:=ZfS (m:=m) (l:=l) (v:=v) (k:=w) (λ h=>h.2 d2);rw[yM d2]at hcw;refine kw1 kO (kc2 d1I @Zat) (kc1 hcw) ?_;refine⟨w+1,?_,kN (kc2 e1 e2) [],?_⟩
             ·omega
             ·omega
            ·have e1:=ZjL (m:=m) (l:=l) (v:=v) (k:=w) ⟨d1,d2⟩;have e2:=ZjG (m:=m) (l:=l) (v:=v) (k:=w) ⟨d1,d2⟩;rw[yC d2]at hcw;refine kw1 kO (kc7 d1I @Zat hp1 hp3 hq1 hq3 @Zil) (kc1 hcw) ?_;refine⟨w+1,?_,kN (kc2 e1 e2) [],?_⟩
             ·omega
             ·omega
          ·have:w=m.length:=by omega
           subst this
           repeat' first|refine ZbD rfl ?_|refine Za1 ?_|refine wR ?_|refine rcM [(1001,125),(2000,904)] (ih) rfl ?_|(refine ZbF rfl rfl (λ hc=>?_) (λ hc=>?_)<;>try simp only[hcL]at hc)|(refine ZbC _ rfl rfl (λ hc=>?_) (λ hc=>?_)<;>(try simp only[hcL]at hc)<;>try omega)|simp(disch:=omega) only[go_sem,simprocAttr,roomy,Zat,en,kY]|exact ZgO v|apply And.intro|omega|decide+kernel
           refine⟨v+1,?_,?_,?_⟩
           ·omega
           ·try dsimp only
            rw[hst2];exact Zbg.2 (Ent.trans (Zjt 904 1 _ l.length rfl) (Ent.trans (Zjs 1000 1 904 1 0 l.length (l.length+1) l.length rfl rfl (by omega)) (Zbg.1 (eL [(901,904)] _ _ (by refine⟨?_,?_⟩<;>(repeat' first|exact yA _|refine uK.2 ⟨(by first|rfl|(simp(disch:=omega) only[go_sem,simprocAttr,inL,hT,bPV,lI,zX,jV];first|done|omega|(congr 1;done))),?_⟩);done)))))
           ·omega
        ·refine kw1 kO (kc1 @Zat) (kc1 hin) ?_;refine Zai (λ(w:Nat)=>w<=m.length) (λ w=>[(0, .ptr 1000 0 0 0),(1, .int cost),(2, .int rest),(6, .int v),(7, .int (Zbu m l v w)),(8, .int (Zbt m l v w)),(51, .d (Zae m)),(52, .int m.length),(53, .int v),(65, .d (Zae m)),(66, .int m.length),(67, .int w)]) (λ w=>[(1000, .cells [.d (Zae m), .ref 901 1 0 l.length l.length, .d (Zcj b0), .int k0]),(1001, .gone),(901, .row 1 (l.map Zaw))]) (λ w=>m.length-w) 0 ?_ ?_ ?_
         ·exact uJ _
         ·exact eL [] _ _ (by refine⟨?_,?_⟩<;>(repeat' first|exact fmn|refine fmc ⟨(by first|rfl|(simp(disch:=omega) only[go_sem,simprocAttr,inL,Zbu,Zbt,sm];first|done|omega|(congr 1;done))),?_⟩);done)
         ·intro w hw;have b1:0<=Zbu m l v w/\Zbu m l v w<=1000000*w:=Go.Bd.more_bounds hs.small l hlt w hw;have b2:0<=Zbt m l v w/\Zbt m l v w<=1000000*w:=Go.Bd.less_bounds hs.small l hlt w hw;rcases uF w m.length with hlw|hgw
          ·obtain⟨p,hp1,hp2,hp3,hp4,hp5⟩:=hs.get hlt hlw;obtain⟨q,hq1,hq2,hq3,hq4,hq5⟩:=hs.get hlw hlt;have hcw:=Zhe l w;by_cases d1:w=v
           ·have e1:=ZfT (m:=m) (l:=l) (v:=v) (k:=w) (λ h=>h.1 d1);have e2:=ZfS (m:=m) (l:=l) (v:=v) (k:=w) (λ h=>h.1 d1);have d1I:(w:Int)=v:=by omega
            refine kw1 kO (kc1 d1I) kc0 ?_;refine⟨w+1,?_,kN (kc2 e1 e2) [],?_⟩
            ·omega
            ·omega
           ·have d1I:¬(w:Int)=v:=by omega
            by_cases d2:w∈l
            ·have e1:=ZfT (m:=m) (l:=l) (v:=v) (k:=w) (λ h=>h.2 d2);have e2:=ZfS (m:=m) (l:=l) (v:=v) (k:=w) (λ h=>h.2 d2);rw[yM d2]at hcw;refine kw1 kO (kc2 d1I @Zat) (kc1 hcw) ?_;refine⟨w+1,?_,kN (kc2 e1 e2) [],?_⟩
             ·omega
             ·omega
            ·have e1:=ZjL (m:=m) (l:=l) (v:=v) (k:=w) ⟨d1,d2⟩;have e2:=ZjG (m:=m) (l:=l) (v:=v) (k:=w) ⟨d1,d2⟩;rw[yC d2]at hcw;refine kw1 kO (kc7 d1I @Zat hp1 hp3 hq1 hq3 @Zil) (kc1 hcw) ?_;refine⟨w+1,?_,kN (kc2 e1 e2) [],?_⟩
             ·omega
             ·omega
          ·have:w=m.length:=by omega
           subst this
           repeat' first|refine ZbD rfl ?_|refine Za1 ?_|refine wR ?_|refine rcM [(1001,125),(2000,904)] (ih) rfl ?_|(refine ZbF rfl rfl (λ hc=>?_) (λ hc=>?_)<;>try simp only[hcL]at hc)|(refine ZbC _ rfl rfl (λ hc=>?_) (λ hc=>?_)<;>(try simp only[hcL]at hc)<;>try omega)|simp(disch:=omega) only[go_sem,simprocAttr,roomy,Zat,en,kY]|exact ZgO v|apply And.intro|omega|decide+kernel
           refine⟨v+1,?_,?_,?_⟩
           ·omega
           ·try dsimp only
            rw[hst2];exact Zbg.2 (Ent.trans (Zjt 904 1 _ l.length rfl) (Ent.trans (Zjs 1000 1 904 1 0 l.length (l.length+1) l.length rfl rfl (by omega)) (Zbg.1 (eL [(901,904)] _ _ (by refine⟨?_,?_⟩<;>(repeat' first|exact yA _|refine uK.2 ⟨(by first|rfl|(simp(disch:=omega) only[go_sem,simprocAttr,inL,hT,bPV,lI,zX,jV];first|done|omega|(congr 1;done))),?_⟩);done)))))
           ·omega
      ·have:v=m.length:=by omega
       subst this;rw[hend];simp only[bPV,lI];refine kw1 kO kc0 kc0 ?_;refine⟨_,Zbg.1 (eL [(2000,901)] [] [(1000, .cells [.d (Zae m), .ref 2000 1 0 l.length l.length, .d (Zcj be), .int ke]),(1001, .gone),(2000, .row 1 (l.map Zaw))] (by constructor<;>(repeat' first|exact yA _|refine uK.2 ⟨rfl,?_⟩);done)),?_⟩;exact⟨⟨[],rfl,trivial⟩,uK.2 ⟨rfl,uK.2 ⟨rfl,uK.2 ⟨rfl,yA _⟩⟩⟩⟩
    ·have hk:¬k<=cost+rest:=by simpa[ZcG]using hsh
     have hbl':=hbl _ rfl;have hnl:¬(l.length:Int)=m.length:=by omega
     have hne:(b.map Zaw).isEmpty=false:=by
      cases b with
      |nil=>simp at hbl';omega
      |cons x b=>rfl
     refine kw1 kO (kc3 hne hk hnl) kc0 ?_;refine Zai (λ(v:Nat)=>v<=m.length) (λ v=>[(0, .ptr 1000 0 0 0),(1, .int cost),(2, .int rest),(51, .d (Zae m)),(52, .int m.length),(53, .int v)]) (λ v=>[(1000, .cells [.d (Zae m), .ref 901 1 0 l.length l.length,bPV (Zbo (Zag m) m.length f l cost rest st0 v), .int (lI (Zbo (Zag m) m.length f l cost rest st0 v))]),(1001, .gone),(901, .row 1 (l.map Zaw))]) (λ v=>m.length-v) 0 ?_ ?_ ?_
     ·exact uJ _
     ·try dsimp only
      rw[Go.Bd.foldE_zero,<-hst0];exact Zbg.2 (Ent.trans (Zh8 1001 901 rfl (by decide) (by decide)) (Zbg.1 (eL [] _ _ (by refine⟨?_,?_⟩<;>(repeat' first|exact yA _|refine uK.2 ⟨(by first|rfl|(simp(disch:=omega) only[go_sem,simprocAttr,inL,bPV,lI];first|done|omega|(congr 1;done))),?_⟩);done) (h7:=ZpQ (by simp) (by decide) (by repeat' first|exact Zfr|exact Zfs _ rfl|refine Zft rfl ?_)))))
     ·intro v hv;have hlv:=hlen v hv;rcases uF v m.length with hlt|hge
      ·have hin:=Zhe l v;by_cases hm:v∈l
       ·rw[yM hm]at hin;have e1:=Go.Bd.foldE_in (Zag m) m.length (f:=f) (cost:=cost) (rest:=rest) (st:=st0) hm;rcases hst:Zbo (Zag m) m.length f l cost rest st0 v with _|⟨b0,k0⟩<;>rw[hst]at e1<;>simp only[bPV,lI]
        all_goals
         refine kw1 kO (kc1 @Zat) (kc1 hin) ?_;refine⟨v+1,?_,?_,?_⟩
         ·omega
         ·try dsimp only
          rw[e1];exact kN (kc2 @bPV.eq_1 @lI.eq_1) []
         ·omega
       ·rw[yC hm]at hin;have e1:=Go.Bd.foldE_out (Zag m) m.length (f:=f) (cost:=cost) (rest:=rest) (st:=st0) hm;have ih:=hIH v hlt hm;have en:(((l.length+1:Nat):Int)-1).toNat=l.length:=by omega
        have hT:(l.map Zaw++[Zaw v]).take l.length=l.map Zaw:=List.take_left' (uE ..);rcases hst:Zbo (Zag m) m.length f l cost rest st0 v with _|⟨b0,k0⟩
        all_goals
         rw[hst]at e1 ih;have e3:Zbo (Zag m) m.length f l cost rest st0 (v+1)=ZbK (Zag m) m.length f (l++[v]) (cost+Zbu m l v m.length) (rest-Zbt m l v m.length) _:=e1;rw[ZeC,<-e3]at ih;obtain⟨⟨b2,k2⟩,hst2⟩:∃s,Zbo (Zag m) m.length f l cost rest st0 (v+1)=some s:=by
          rw[e3];exact Go.Bd.ext_some f (l++[v]) (hp.snoc hlt hm) _ _ _
         rw[hst2]at ih e3;simp only[bPV,lI,uC,uV,uY,yB,uX,yT,qO]at ih|-
        ·refine kw1 kO (kc1 @Zat) (kc1 hin) ?_;refine Zai (λ(w:Nat)=>w<=m.length) (λ w=>[(0, .ptr 1000 0 0 0),(1, .int cost),(2, .int rest),(6, .int v),(7, .int (Zbu m l v w)),(8, .int (Zbt m l v w)),(51, .d (Zae m)),(52, .int m.length),(53, .int v),(65, .d (Zae m)),(66, .int m.length),(67, .int w)]) (λ w=>[(1000, .cells [.d (Zae m), .ref 901 1 0 l.length l.length, .nilS, .int 0]),(1001, .gone),(901, .row 1 (l.map Zaw))]) (λ w=>m.length-w) 0 ?_ ?_ ?_
         ·exact uJ _
         ·exact eL [] _ _ (by refine⟨?_,?_⟩<;>(repeat' first|exact fmn|refine fmc ⟨(by first|rfl|(simp(disch:=omega) only[go_sem,simprocAttr,inL,Zbu,Zbt,sm];first|done|omega|(congr 1;done))),?_⟩);done)
         ·intro w hw;have b1:0<=Zbu m l v w/\Zbu m l v w<=1000000*w:=Go.Bd.more_bounds hs.small l hlt w hw;have b2:0<=Zbt m l v w/\Zbt m l v w<=1000000*w:=Go.Bd.less_bounds hs.small l hlt w hw;rcases uF w m.length with hlw|hgw
          ·obtain⟨p,hp1,hp2,hp3,hp4,hp5⟩:=hs.get hlt hlw;obtain⟨q,hq1,hq2,hq3,hq4,hq5⟩:=hs.get hlw hlt;have hcw:=Zhe l w;by_cases d1:w=v
           ·have e1:=ZfT (m:=m) (l:=l) (v:=v) (k:=w) (λ h=>h.1 d1);have e2:=ZfS (m:=m) (l:=l) (v:=v) (k:=w) (λ h=>h.1 d1);have d1I:(w:Int)=v:=by omega
            refine kw1 kO (kc1 d1I) kc0 ?_;refine⟨w+1,?_,kN (kc2 e1 e2) [],?_⟩
            ·omega
            ·omega
           ·have d1I:¬(w:Int)=v:=by omega
            by_cases d2:w∈l
            ·have e1:=ZfT (m:=m) (l:=l) (v:=v) (k:=w) (λ h=>h.2 d2);have e2:=ZfS (m:=m) (l:=l) (v:=v) (k:=w) (λ h=>h.2 d2);rw[yM d2]at hcw;refine kw1 kO (kc2 d1I @Zat) (kc1 hcw) ?_;refine⟨w+1,?_,kN (kc2 e1 e2) [],?_⟩
             ·omega
             ·omega
            ·have e1:=ZjL (m:=m) (l:=l) (v:=v) (k:=w) ⟨d1,d2⟩;have e2:=ZjG (m:=m) (l:=l) (v:=v) (k:=w) ⟨d1,d2⟩;rw[yC d2]at hcw;refine kw1 kO (kc7 d1I @Zat hp1 hp3 hq1 hq3 @Zil) (kc1 hcw) ?_;refine⟨w+1,?_,kN (kc2 e1 e2) [],?_⟩
             ·omega
             ·omega
          ·have:w=m.length:=by omega
           subst this
           repeat' first|refine ZbD rfl ?_|refine Za1 ?_|refine wR ?_|refine rcM [(1001,125),(2000,904)] (ih) rfl ?_|(refine ZbF rfl rfl (λ hc=>?_) (λ hc=>?_)<;>try simp only[hcL]at hc)|(refine ZbC _ rfl rfl (λ hc=>?_) (λ hc=>?_)<;>(try simp only[hcL]at hc)<;>try omega)|simp(disch:=omega) only[go_sem,simprocAttr,roomy,Zat,en,kY]|exact ZgO v|apply And.intro|omega|decide+kernel
           refine⟨v+1,?_,?_,?_⟩
           ·omega
           ·try dsimp only
            rw[hst2];exact Zbg.2 (Ent.trans (Zjt 904 1 _ l.length rfl) (Ent.trans (Zjs 1000 1 904 1 0 l.length (l.length+1) l.length rfl rfl (by omega)) (Zbg.1 (eL [(901,904)] _ _ (by refine⟨?_,?_⟩<;>(repeat' first|exact yA _|refine uK.2 ⟨(by first|rfl|(simp(disch:=omega) only[go_sem,simprocAttr,inL,hT,bPV,lI,zX,jV];first|done|omega|(congr 1;done))),?_⟩);done)))))
           ·omega
        ·refine kw1 kO (kc1 @Zat) (kc1 hin) ?_;refine Zai (λ(w:Nat)=>w<=m.length) (λ w=>[(0, .ptr 1000 0 0 0),(1, .int cost),(2, .int rest),(6, .int v),(7, .int (Zbu m l v w)),(8, .int (Zbt m l v w)),(51, .d (Zae m)),(52, .int m.length),(53, .int v),(65, .d (Zae m)),(66, .int m.length),(67, .int w)]) (λ w=>[(1000, .cells [.d (Zae m), .ref 901 1 0 l.length l.length, .d (Zcj b0), .int k0]),(1001, .gone),(901, .row 1 (l.map Zaw))]) (λ w=>m.length-w) 0 ?_ ?_ ?_
         ·exact uJ _
         ·exact eL [] _ _ (by refine⟨?_,?_⟩<;>(repeat' first|exact fmn|refine fmc ⟨(by first|rfl|(simp(disch:=omega) only[go_sem,simprocAttr,inL,Zbu,Zbt,sm];first|done|omega|(congr 1;done))),?_⟩);done)
         ·intro w hw;have b1:0<=Zbu m l v w/\Zbu m l v w<=1000000*w:=Go.Bd.more_bounds hs.small l hlt w hw;have b2:0<=Zbt m l v w/\Zbt m l v w<=1000000*w:=Go.Bd.less_bounds hs.small l hlt w hw;rcases uF w m.length with hlw|hgw
          ·obtain⟨p,hp1,hp2,hp3,hp4,hp5⟩:=hs.get hlt hlw;obtain⟨q,hq1,hq2,hq3,hq4,hq5⟩:=hs.get hlw hlt;have hcw:=Zhe l w;by_cases d1:w=v
           ·have e1:=ZfT (m:=m) (l:=l) (v:=v) (k:=w) (λ h=>h.1 d1);have e2:=ZfS (m:=m) (l:=l) (v:=v) (k:=w) (λ h=>h.1 d1);have d1I:(w:Int)=v:=by omega
            refine kw1 kO (kc1 d1I) kc0 ?_;refine⟨w+1,?_,kN (kc2 e1 e2) [],?_⟩
            ·omega
            ·omega
           ·have d1I:¬(w:Int)=v:=by omega
            by_cases d2:w∈l
            ·have e1:=ZfT (m:=m) (l:=l) (v:=v) (k:=w) (λ h=>h.2 d2);have e2:=ZfS (m:=m) (l:=l) (v:=v) (k:=w) (λ h=>h.2 d2);rw[yM d2]at hcw;refine kw1 kO (kc2 d1I @Zat) (kc1 hcw) ?_;refine⟨w+1,?_,kN (kc2 e1 e2) [],?_⟩
             ·omega
             ·omega
            ·have e1:=ZjL (m:=m) (l:=l) (v:=v) (k:=w) ⟨d1,d2⟩;have e2:=ZjG (m:=m) (l:=l) (v:=v) (k:=w) ⟨d1,d2⟩;rw[yC d2]at hcw;refine kw1 kO (kc7 d1I @Zat hp1 hp3 hq1 hq3 @Zil) (kc1 hcw) ?_;refine⟨w+1,?_,kN (kc2 e1 e2) [],?_⟩
             ·omega
             ·omega
          ·have:w=m.length:=by omega
           subst this
           repeat' first|refine ZbD rfl ?_|refine Za1 ?_|refine wR ?_|refine rcM [(1001,125),(2000,904)] (ih) rfl ?_|(refine ZbF rfl rfl (λ hc=>?_) (λ hc=>?_)<;>try simp only[hcL]at hc)|(refine ZbC _ rfl rfl (λ hc=>?_) (λ hc=>?_)<;>(try simp only[hcL]at hc)<;>try omega)|simp(disch:=omega) only[go_sem,simprocAttr,roomy,Zat,en,kY]|exact ZgO v|apply And.intro|omega|decide+kernel
           refine⟨v+1,?_,?_,?_⟩
           ·omega
           ·try dsimp only
            rw[hst2];exact Zbg.2 (Ent.trans (Zjt 904 1 _ l.length rfl) (Ent.trans (Zjs 1000 1 904 1 0 l.length (l.length+1) l.length rfl rfl (by omega)) (Zbg.1 (eL [(901,904)] _ _ (by refine⟨?_,?_⟩<;>(repeat' first|exact yA _|refine uK.2 ⟨(by first|rfl|(simp(disch:=omega) only[go_sem,simprocAttr,inL,hT,bPV,lI,zX,jV];first|done|omega|(congr 1;done))),?_⟩);done)))))
           ·omega
      ·have:v=m.length:=by omega
       subst this;rw[hend];simp only[bPV,lI];refine kw1 kO kc0 kc0 ?_;refine⟨_,Zbg.1 (eL [(2000,901)] [] [(1000, .cells [.d (Zae m), .ref 2000 1 0 l.length l.length, .d (Zcj be), .int ke]),(1001, .gone),(2000, .row 1 (l.map Zaw))] (by constructor<;>(repeat' first|exact yA _|refine uK.2 ⟨rfl,?_⟩);done)),?_⟩;exact⟨⟨[],rfl,trivial⟩,uK.2 ⟨rfl,uK.2 ⟨rfl,uK.2 ⟨rfl,yA _⟩⟩⟩⟩
  ·exact Zoj m (f+1) l st cost rest hi (by omega) hsh (by rw[Go.Bd.ext_foldE,if_pos hsh])
end Go.Proofs.YtjjbhjnpeenbkaaGreatDoor
namespace Go.Proofs.YtjjbhjnpeenbkaaGreatDoor
open Go Go.PS Go.Proofs
open Go.Bd (sm Zan Zby low Part Zbf Za5 ZbK Zbo Zcx ZdG ZcG Zes)
set_option maxRecDepth 100000
attribute [local irreducible] Zab wpG Zaa Zaf
theorem ZtF (m:List (List Int)):ZbK (Zag m) m.length m.length [] 0 (low (Zag m) m.length []) none=some (Zck m):=by
 have h:=Go.Bd.ext_best (Zag m) m.length [] (ZiG _) none;rw[ZkK]at h;exact h
theorem Zm2 (m:List (List Int)):Zaa Tryz.prog 110 [Zae m] (if okM m then .tup [Zcj (Zck m).1, .int (Zck m).2, .int 0]else .tup [.sl [], .int 0, .int 1]):=by
 have hv:=Znq m;rcases h:okM m with _|_<;>rw[h]at hv
 ·rw[if_neg (by decide)];refine kE Tryz.func110 ?_;intro hat B X w0;refine kw1 kO kc0 (kc1 hv) ?_;exact⟨_,rfl,ZcS rfl,Zah rfl,Zah rfl,trivial⟩
 ·rw[if_pos rfl];obtain⟨hs,h8⟩:=ZlT h;have hlo:=ZrA m h;have hb:0<=low (Zag m) m.length []/\low (Zag m) m.length []<=64000000:=by
   rw[Zpg];have:=Zpe hs h8 m.length (uH _);omega
  have he:=ZtG m hs h8 m.length [] (ZiG _) none 0 (low (Zag m) m.length []) ⟨λ s hs=>(by cases hs), .inr rfl,by omega,by simp,by simp only[uY];omega,by omega⟩;rw[ZeC,ZtF]at he;simp only[bPV,lI,uY,yT]at he;refine kE Tryz.func110 ?_;intro hat B X w0
  repeat' first|refine ZbD rfl ?_|refine Za1 ?_|refine ZwG 4 rfl (λ _=>false) ZcC ?_|(refine rc (hv) rfl ?_ ?_;(· first|rfl|simp(disch:=omega) only[go_sem,simprocAttr]))|(refine ZbF rfl rfl (λ hc=>?_) (λ hc=>?_)<;>try simp only[hcL]at hc)|(refine ZbC _ rfl rfl (λ hc=>?_) (λ hc=>?_)<;>(try simp only[hcL]at hc)<;>try omega)|simp(disch:=omega) only[go_sem,simprocAttr]|apply And.intro|omega|decide+kernel
  refine Zau _ (Zcr 11 1 901 1 rfl rfl rfl) ?_;refine kw1 kO kc0 (kc2 hlo (kmc [(1000,11),(1001,901),(2000,902)] he)) ?_;exact⟨_,rfl,ZcS rfl,Zah rfl,Zah rfl,trivial⟩
end Go.Proofs.YtjjbhjnpeenbkaaGreatDoor
namespace Go.Proofs.YtjjbhjnpeenbkaaGreatDoor
open Go Go.PS Go.Proofs
open Go.Bd (ix Zc5 ZdE Zcl ZbX ZhB)
set_option maxRecDepth 100000
attribute [local irreducible] Zab wpG Zaa Zaf
theorem Zlx {l:List Int}{v:Int}(h:v∈l):ix l v=((l.idxOf v:Nat):Int):=by rw[ix,if_pos h]
theorem Zc8 {l:List (List Int)}{k:Nat}{y:List Int}(h:l[k]? =some y):Zaq l k=y:=by rw[Zaq,h];rfl
theorem Zhr {l:List (List Int)}{k:Nat}(h:l.length<=k):Zaq l k=[]:=by rw[Zaq,uP h];rfl
def okW (a:Lv)(w:Int):Bool:=Zay a&&decide (0<=w/\w<=1000)
def ZjB (a:Lv)(old:List (List Int))(k:Nat):Int:=ZaE (λ i=>(Zc5 (Zaq old i) (Zaq a.2.1 i):Int)) k
def Zk2 (a:Lv)(old:List (List Int))(w:Int):Int:=if okW a w then Za2 a+w*ZjB a old a.2.1.length else -1
theorem ZuU {a:Lv}(h:Zay a=true)(k:Nat):(Zaq a.2.1 k).length<=512:=by
 obtain⟨t1,t2⟩:=Zcv h;rcases uF k a.2.1.length with hlt|hge
 ·obtain⟨y,hy⟩:=Zad hlt;rw[Zc8 hy];have:=ZcV (uA hy);omega
 ·rw[Zhr hge];simp
def ZaX (g:Nat->Int)(n:Nat):List Int:=(List.range n).map g
def Zci (f g:Nat->Int)(n b:Nat):List Int:=ZaX (λ v=>if v<b then g v else f v) n
theorem ZdJ (g:Nat->Int)(n:Nat):(ZaX g n).length=n:=by simp[ZaX]
theorem Ze2 {g:Nat->Int}{n v:Nat}(h:v<n):(ZaX g n)[v]? =some (g v):=by simp[ZaX,h]
theorem Zf2 {f g:Nat->Int}{n:Nat}(h:∀v,v<n->f v=g v):ZaX f n=ZaX g n:=yE λ v hv=>h v (yD.1 hv)
theorem Ziv (f g:Nat->Int)(n b:Nat):(Zci f g n b).length=n:=ZdJ _ _
theorem Zpq (f g:Nat->Int)(n:Nat):Zci f g n 0=ZaX f n:=Zf2 λ v _=>if_neg (by omega)
theorem Zpn (f g:Nat->Int)(n:Nat):Zci f g n n=ZaX g n:=Zf2 λ v hv=>if_pos hv
theorem Zpo {f g:Nat->Int}{n b:Nat}(h:b<n):(Zci f g n b)[b]? =some (f b):=by rw[Zci,Ze2 h,if_neg (by omega)]
theorem Zpp {f g:Nat->Int}{n b:Nat}(h:b<n):(Zci f g n b).set b (g b)=Zci f g n (b+1):=by
 refine qL λ v=>?_
 rw[qD,Ziv];by_cases c:b=v
 ·subst c;rw[if_pos rfl,if_pos h,Zci,Ze2 h,if_pos (by omega)]
 ·rw[if_neg c];by_cases c2:v<n
  ·rw[Zci,Zci,Ze2 c2,Ze2 c2];by_cases c3:v<b
   ·rw[if_pos c3,if_pos (by omega)]
   ·rw[if_neg c3,if_neg (by omega)]
  ·rw[uP (by rw[Ziv];omega),uP (by rw[Ziv];omega)]
theorem Zqq (n:Nat):List.replicate n (D.int 0)=(ZaX (λ _=>0) n).map D.int:=by
 rw[ZaX,gN];refine qL λ v=>?_
 by_cases c:v<n<;>simp[gI,c]
def ZhM (old y:List Int)(w:Int)(u v:Nat):Int:=if 0<=ix old (at0 y v)/\ix old (at0 y v)<ix old (at0 y u)then w else 0
def Zd6 (i:Nat)(t:Nat):Int:=if t=0 then(i:Int)-1 else(i:Int)+1
def Zde (a:Lv)(old y:List Int)(w:Int)(i:Nat):Nat->Nat->Nat->Int
 |0,u,v=>ZhM old y w u v
 |t+1,u,v=>Zde a old y w i t u v+Zag (ZaQ a i (Zd6 i t)) u v
def sqM (g:Nat->Nat->Int)(n:Nat):List (List Int):=(List.range n).map λ u=>ZaX (g u) n
def stM (a:Lv)(old y:List Int)(w:Int)(i:Nat):List (List Int):=sqM (Zde a old y w i 2) y.length
theorem ZnP {m:List (List Int)}(h:Sq m)(u v:Nat):0<=Zag m u v/\Zag m u v<=1000000:=by
 by_cases hu:u<m.length
 ·by_cases hv:v<m.length
  ·obtain⟨_,_,_,_,h1,h2⟩:=h.get hu hv;exact⟨h1,h2⟩
  ·obtain⟨p,hp⟩:=Zad hu;have:=h.row p (uA hp);rw[Zag,Zc8 hp,at0,uQ,uP (by omega)];decide
 ·rw[Zag,Zhr (by omega)];simp[at0]
theorem Zi6 (a:Lv)(old y:List Int){w:Int}(hw:0<=w/\w<=1000)(i:Nat):∀t u v,0<=Zde a old y w i t u v/\Zde a old y w i t u v<=1000+1000000*t
 |0,u,v=>by
  rw[Zde,ZhM];split<;>omega
 |t+1,u,v=>by
  have ih:=Zi6 a old y hw i t u v;have:=ZnP (Zi0 a i (Zd6 i t)) u v;rw[Zde];omega
end Go.Proofs.YtjjbhjnpeenbkaaGreatDoor
namespace Go.Proofs.YtjjbhjnpeenbkaaGreatDoor
open Go Go.PS Go.Proofs
open Go.Bd (ix Zc5 ZdE Zcl Zan ZfA Zmy Zho Part Zbf)
theorem ZsP {g:Nat->Nat->Int}{n u v:Nat}(hu:u<n)(hv:v<n):Zag (sqM g n) u v=g u v:=by
 rw[Zag,sqM,Zaq,uI,qQ hu];simp only[yV,yQ];rw[at0,uQ,Ze2 hv];rfl
theorem Zkc (a:Lv)(old y:List Int)(w:Int)(i:Nat):(stM a old y w i).length=y.length:=by simp[stM,sqM]
def yG (y:List Int)(k:Nat):Int:=(y[k]?).getD 0
theorem ZzS (old y:List Int)(w:Int)(u v:Nat):ZhM old y w u v=w*Zho old (yG y) u v:=by
 have e:∀k:Nat,at0 y k=yG y k:=λ k=>by rw[at0,uQ];rfl
 rw[ZhM,Zho,e,e];by_cases h1:yG y u∈old<;>by_cases h2:yG y v∈old
 ·rw[Zlx h1,Zlx h2];by_cases h3:old.idxOf (yG y v)<old.idxOf (yG y u)
  ·rw[if_pos ⟨by omega,by omega⟩,if_pos ⟨h1,h2,h3⟩,Int.mul_one]
  ·rw[if_neg (λ h=>h3 (by omega)),if_neg (λ h=>h3 h.2.2),Ch]
 ·rw[if_neg (λ h=>by
   have:=h.1;rw[ix,if_neg h2]at this;omega),if_neg (λ h=>h2 h.2.1),Ch]
 ·rw[if_neg (λ h=>by
   have:=h.2;rw[Zlx h2,ix,if_neg h1]at this;omega),if_neg (λ h=>h1 h.1),Ch]
 ·rw[if_neg (λ h=>by
   have:=h.1;rw[ix,if_neg h2]at this;omega),if_neg (λ h=>h1 h.1),Ch]
theorem ZrU (a:Lv)(old y:List Int)(w:Int)(i:Nat)(u v:Nat):Zde a old y w i 2 u v=w*Zho old (yG y) u v+Zgy a i u v:=by
 rw[<-ZzS];show ZhM old y w u v+Zag (ZaQ a i ((i:Int)-1)) u v+Zag (ZaQ a i ((i:Int)+1)) u v=_;rw[Zgy];omega
theorem ZyS (a:Lv)(old y:List Int)(w:Int)(i:Nat){o:List Nat}(ho:Part y.length 0 o):
  Zan (Zag (stM a old y w i)) o=w*Zan (Zho old (yG y)) o+Zan (Zgy a i) o:=by
 rw[<-Zmy,<-ZfA];refine Zmw ho.nd λ u hu v hv _=>?_
 rw[stM,ZsP (ho.lt u hu) (ho.lt v hv),ZrU]
theorem Zin {a:Lv}(hv:Zay a=true){i:Nat}{y:List Int}(hy:a.2.1[i]? =some y):y.Nodup:=
 (gY.1 (ZeB hv)).1 y (uA hy)
theorem Zl5 {y:List Int}{o:List Nat}(hn:y.Nodup)(ho:Part y.length 0 o):(ZaG y o).Perm y:=
 (Af (ZpT hn ho) hn).2 λ _=>ZpS ho
theorem Zw7 {a:Lv}(hv:Zay a=true){i:Nat}{y:List Int}{o:List Nat}(hy:a.2.1[i]? =some y)(ho:Part y.length 0 o):Zef a i (ZaG y o)=(ZbO a i (ZaG y o),0):=by
 have hil:=(uB.1 hy).1;rw[Zef,if_neg (by rw[hv];decide),if_neg (by omega),uQ,hy,yQ,if_neg (by rw[ZqR (Zl5 (Zin hv hy) ho)];simp)];rfl
end Go.Proofs.YtjjbhjnpeenbkaaGreatDoor
namespace Go.Proofs.YtjjbhjnpeenbkaaGreatDoor
open Go Go.PS Go.Proofs
open Go.Bd (sm ix Zc5 ZdE Zcl Zan Part Zbf)
set_option maxRecDepth 100000
attribute [local irreducible] Zab wpG Zaa Zaf
theorem ZnR (a:Lv)(i f:Int)(u v:Nat):Zag (ZaQ a i f) u v<=((a.2.2.1.length*a.2.2.1.length:Nat):Int):=by
 have hz:Zag [] u v=0:=by simp[Zag,Zaq,at0]
 rw[ZaQ];split
 ·by_cases hu:u<(Za6 a.2.1 a.2.2.1 i f (Zcg a i)).length
  ·by_cases hv:v<(Za6 a.2.1 a.2.2.1 i f (Zcg a i)).length
   ·rw[ZkU hu hv,Zdf];split
    ·omega
    ·have hl:∀k,(Zaq (Za6 a.2.1 a.2.2.1 i f (Zcg a i)) k).length<=a.2.2.1.length:=λ k=>by
      by_cases hk:k<Zcg a i
      ·rw[Za6,Zaq,uI,qQ hk];exact Zhh ..
      ·rw[Zhr (by simp[Za6];omega)];exact uJ _
     have:=gR (ZkI _ _) (zF (hl u) (hl v));omega
   ·have:Zag (Zcw (Za6 a.2.1 a.2.2.1 i f (Zcg a i))) u v=0:=by
     rw[Zag,Zcw,Zaq,uI,qQ hu];simp only[yV,yQ];rw[at0,uQ,uP (by simp;omega)];rfl
    omega
  ·have:Zag (Zcw (Za6 a.2.1 a.2.2.1 i f (Zcg a i))) u v=0:=by
    rw[Zag,Zhr (by rw[Zcw];simp;omega)];simp[at0]
   omega
 ·rw[hz];omega
theorem ZyR {a:Lv}{old y:List Int}{w:Int}{i:Nat}(hw:0<=w/\w<=1000)(har:a.2.2.1.length<=700)(hy:y.length<=8):okM (stM a old y w i)=true:=by
 refine ZyP ⟨by rw[Zkc];omega,λ p hp=>?_,λ p hp x hx=>?_⟩ (by rw[Zkc];exact hy)
 ·rw[Zkc];obtain⟨u,_,rfl⟩:=uN.1 hp;exact ZdJ _ _
 ·obtain⟨u,_,rfl⟩:=uN.1 hp;obtain⟨v,_,rfl⟩:=uN.1 hx;have hb:a.2.2.1.length*a.2.2.1.length<=490000:=gR (zF har har) (by decide);have h1:=ZnR a i ((i:Int)-1) u v;have h2:=ZnR a i ((i:Int)+1) u v;have h3:=(Zi6 a old y hw i 2 u v).1;have h4:=(Zi6 a old y hw i 0 u v).2;have e:Zde a old y w i 2 u v=Zde a old y w i 0 u v+Zag (ZaQ a i ((i:Int)-1)) u v+Zag (ZaQ a i ((i:Int)+1)) u v:=rfl;omega
theorem Znw (m:List (List Int)):Part m.length 0 (Zck m).1/\(Zck m).2=Zan (Zag m) (Zck m).1:=by
 obtain⟨h1,_,h3⟩:=Go.Bd.best_of (Zag m) m.length [] (ZiG _) _ (ZkK m);exact⟨h1,h3⟩
def Zsv (a:Lv)(old:List (List Int))(w:Int)(i:Nat):Lv:=
 if(Zck (stM a (Zaq old i) (Zaq a.2.1 i) w i)).2<Zan (Zag (stM a (Zaq old i) (Zaq a.2.1 i) w i)) (List.range (Zaq a.2.1 i).length)then ZbO a i (ZaG (Zaq a.2.1 i) (Zck (stM a (Zaq old i) (Zaq a.2.1 i) w i)).1)else a
theorem Zs9 (l:List Int)(hn:l.length<=1000000):Zaf Tryz.prog 214 [.d (Zac l)] [(2000, .dead)] (.ref 2000 1 0 l.length l.length) [(2000, .row 1 (l.map D.int))]:=by
 rcases gU (l=[])with rfl|hl
 ·refine kM Tryz.func214 ?_;intro B X w0;refine ZcQ ?_;refine kw1 kO kc0 kc0 ?_;refine ZiK 4 rfl ?_;intro b;cases b
  ·repeat' first|refine ZbD rfl ?_|refine Za1 ?_|refine Zf0 (Nat.beq 5) ZcC ?_|(refine ZbF rfl rfl (λ hc=>?_) (λ hc=>?_)<;>try simp only[hcL]at hc)|(refine ZbC _ rfl rfl (λ hc=>?_) (λ hc=>?_)<;>(try simp only[hcL]at hc)<;>try omega)|simp(disch:=omega) only[go_sem,simprocAttr,roomy]|apply And.intro|omega|decide+kernel
   refine⟨_,Zbg.1 (kN (L:=[(2, .ref 2000 1 0 0 0)]) (M:=[(2000, .row 1 [])]) kc0 [(2000,7)]),?_⟩;exact⟨rfl,uK.2 ⟨rfl,yA _⟩⟩
  ·refine kw1 kO kc0 kc0 ?_;refine⟨_,Ent.trans (Zd5 2 7 1 rfl rfl) (Zbg.1 (eL [(2000,7)] [(2, .ref 2000 1 0 0 0)] [(2000, .row 1 [])] (by constructor<;>(repeat' first|exact yA _|refine uK.2 ⟨rfl,?_⟩)))),?_⟩;exact⟨rfl,uK.2 ⟨rfl,yA _⟩⟩
 ·have he:(l.map D.int).isEmpty=false:=by simpa using hl
  have hpos:0<l.length:=zS.2 hl;refine kM Tryz.func214 ?_;intro B X w0;refine ZcQ ?_
  repeat' first|refine ZbD rfl ?_|refine Za1 ?_|refine Zf0 (Nat.beq 5) ZcC ?_|(refine ZbF rfl rfl (λ hc=>?_) (λ hc=>?_)<;>try simp only[hcL]at hc)|(refine ZbC _ rfl rfl (λ hc=>?_) (λ hc=>?_)<;>(try simp only[hcL]at hc)<;>try omega)|simp(disch:=omega) only[go_sem,simprocAttr,he,roomy,Zat]|exact ZfY l|apply And.intro|omega|decide+kernel
  refine⟨_,Zbg.1 (kN (L:=[(2, .ref 2000 1 0 l.length l.length)]) (M:=[(2000, .row 1 (l.map D.int))]) kc0 [(2000,7)]),?_⟩;exact⟨rfl,uK.2 ⟨rfl,yA _⟩⟩
theorem ZqA (l m:List Int):Zaa Tryz.prog 31 [Zac l,Zac m] (.bool (decide (l=m))):=by
 refine kE Tryz.func31 ?_;intro hat B X w0;have hl:=Zbb 0 hat rfl;have hm:=Zbb 1 hat rfl;rw[uE]at hl hm;by_cases hlm:l.length=m.length
 ·refine kw1 kO kc0 kc0 ?_;refine Zai (λ(k:Nat)=>k<=l.length/\l.take k=m.take k) (λ k=>[(0, .d (Zac l)),(1, .d (Zac m)),(5, .int k)]) (λ k=>[]) (λ k=>l.length-k) 0 ?_ ?_ ?_
  ·exact⟨uJ _,rfl⟩
  ·exact kN kc0 []
  ·rintro k ⟨hk,hinv⟩;rcases uF k l.length with hlt|hge
   ·obtain⟨p,hp⟩:=Zad hlt;obtain⟨q,hq⟩:=Zad (hlm▸hlt);refine kw kO (kc2 hp hq) kc0 ?_
    repeat' first|exact True.intro|refine Bn.mk ?_ ?_|intro hc
    ·refine Zaj ?_;rw[yC (Zgm hp hq hc)]
    ·refine⟨k+1,?_,eL [] _ _ (by refine⟨?_,?_⟩<;>(repeat' first|exact fmn|refine fmc ⟨(by first|rfl|(simp(disch:=omega) only[go_sem,simprocAttr,inL];first|done|omega|(congr 1;done))),?_⟩);done),?_⟩
     ·exact⟨by omega,by rw[ZaD hp,ZaD hq,hinv,hc]⟩
     ·omega
   ·refine kw1 kO kc0 kc0 ?_;refine Zaj ?_;rw[uD hge,uD (by omega)]at hinv;simp[hinv]
 ·refine kw1 kO kc0 kc0 ?_;refine Zaj ?_;rw[yC];rintro rfl;exact hlm rfl
theorem sum_nil {a:Lv}(h:Zay a=true):Zk2 a [] 7=Za2 a:=by
 have hz:∀k,ZjB a [] k=0:=by
  intro k
  induction k with
  |zero=>rfl
  |succ k ih=>
   have s1:ZjB a [] (k+1)=ZjB a [] k+(Zc5 (Zaq [] k) (Zaq a.2.1 k):Int):=rfl;have s2:∀(l:List Int) i,Zcl [] l i=[]:=by
    intro l i
    induction i with
    |zero=>rfl
    |succ i ihi=>rw[Zcl];split<;>simp[ihi]
   have s3:Zaq [] k=[]:=Zhr (uJ _);rw[s1,ih,s3,Zc5,s2];rfl
 rw[Zk2,if_pos (by rw[okW,h];decide),hz];omega
end Go.Proofs.YtjjbhjnpeenbkaaGreatDoor
namespace Go.Proofs.YtjjbhjnpeenbkaaGreatDoor
open Go Go.PS Go.Proofs
open Go.Bd (Zcl)
set_option maxRecDepth 100000
attribute [local irreducible] Zab wpG Zaa Zaf
end Go.Proofs.YtjjbhjnpeenbkaaGreatDoor
namespace Go.Proofs.YtjjbhjnpeenbkaaGreatDoor
open Go Go.PS Go.Proofs
open Go.Bd (Zc5 Zcl Zan Part)
theorem Zme {a:Lv}(hv:Zay a=true){i:Nat}{y z:List Int}(hy:a.2.1[i]? =some y)(hz:z.Perm y):Zef a i z=(ZbO a i z,0):=by
 have hil:=(uB.1 hy).1;rw[Zef,if_neg (by rw[hv];decide),if_neg (by omega),uQ,hy,yQ,if_neg (by rw[ZqR hz];simp)];rfl
theorem Zwj {a:Lv}(hv:Zay a=true){i:Nat}{y z:List Int}(hy:a.2.1[i]? =some y)(hz:z.Perm y):Zay (ZbO a i z)=true:=by
 have h:=Zme hv hy hz;have:=Zw9 (a:=a) (i:=i) (o:=z) (by rw[h]);rw[h]at this;exact this
structure Kin (a b:Lv):Prop where
 ok:Zay b=true
 wd:wide b
 len:b.2.1.length=a.2.1.length
 arcs:b.2.2.1=a.2.2.1
 perm:∀k,(Zaq b.2.1 k).Perm (Zaq a.2.1 k)
theorem Kin.refl {a:Lv}(hv:Zay a=true)(hw:wide a):Kin a a:=⟨hv,hw,rfl,rfl,λ _=>zH _⟩
theorem Kin.put {a b:Lv}(h:Kin a b){i:Nat}{y z:List Int}(hy:b.2.1[i]? =some y)(hz:z.Perm y):Kin a (ZbO b i z):=by
 have hil:=(uB.1 hy).1;have hyl:y.length<=512:=by have:=ZuU h.ok i;rw[Zc8 hy]at this;exact this
 refine⟨Zwj h.ok hy hz,?_,?_,h.arcs,λ k=>?_⟩
 ·have:=Zxa (a:=b) (i:=i) (o:=z) h.wd (by have:=hz.length_eq;omega);rw[Zme h.ok hy hz]at this;exact this
 ·rw[<-h.len];exact yL
 ·have hl:(ZbO b i z).2.1=b.2.1.set i z:=rfl;by_cases c:k=i
  ·subst c;have hs:Zaq (b.2.1.set k z) k=z:=by rw[Zaq,qD,if_pos rfl,if_pos hil];rfl
   rw[hl,hs];have:=h.perm k;rw[Zc8 hy]at this;exact hz.trans this
  ·have:Zaq (b.2.1.set i z) k=Zaq b.2.1 k:=by rw[Zaq,Zaq,qD,if_neg (λ h=>c h.symm)]
   rw[hl,this];exact h.perm k
theorem Kin.lay {a b:Lv}(h:Kin a b){k:Nat}(hk:k<a.2.1.length):b.2.1[k]? =some (Zaq b.2.1 k):=by
 obtain⟨y,hy⟩:=Zad (l:=b.2.1) (k:=k) (by have:=h.len;omega);rw[Zc8 hy];exact hy
theorem Kin.llen {a b:Lv}(h:Kin a b)(k:Nat):(Zaq b.2.1 k).length=(Zaq a.2.1 k).length:=(h.perm k).length_eq
def ZbY (b:Lv)(old:List (List Int))(w:Int):Nat->Lv
 |0=>b
 |k+1=>if 8<(Zaq (ZbY b old w k).2.1 k).length then ZbY b old w k else Zsv (ZbY b old w k) old w k
end Go.Proofs.YtjjbhjnpeenbkaaGreatDoor
namespace Go.Proofs.YtjjbhjnpeenbkaaGreatDoor
open Go Go.PS Go.Proofs
open Go.Bd (Zan Part Zho)
def orM (a:Lv)(i:Nat):List (List Int):=stM a [] (Zaq a.2.1 i) 0 i
theorem ZpG (a:Lv)(i:Nat):(orM a i).length=(Zaq a.2.1 i).length:=Zkc ..
theorem ZpH (a:Lv)(i:Nat){o:List Nat}(ho:Part (Zaq a.2.1 i).length 0 o):Zan (Zag (orM a i)) o=Zan (Zgy a i) o:=by
 rw[orM,ZyS _ _ _ _ _ ho];omega
theorem ZvZ {a:Lv}{i:Nat}(har:a.2.2.1.length<=700)(h8:¬8<(Zaq a.2.1 i).length):okM (orM a i)=true:=ZyR (by decide) har (by omega)
theorem ZlX (a:Lv)(i:Nat):Part (Zaq a.2.1 i).length 0 (Zck (orM a i)).1:=by
 have:=(Znw (orM a i)).1;rw[ZpG]at this;exact this
def Ze9 (a:Lv)(i:Nat):Bool:=decide ((Zck (orM a i)).2<Zan (Zag (orM a i)) (List.range (Zaq a.2.1 i).length))
def Zb4 (a:Lv)(i:Nat):List Nat×Bool:=if 8<(Zaq a.2.1 i).length then([],false)else((Zck (orM a i)).1,Ze9 a i)
def Zep (a:Lv)(i:Nat):Lv:=ZbO a i (ZaG (Zaq a.2.1 i) (Zck (orM a i)).1)
theorem ZkM {a:Lv}{i:Nat}(h:(Zb4 a i).2=true):¬8<(Zaq a.2.1 i).length/\Ze9 a i=true:=by
 rw[Zb4]at h;split at h
 ·cases h
 ·exact⟨by assumption,h⟩
theorem Kin.arr {a b:Lv}(h:Kin a b){i:Nat}(hi:i<a.2.1.length){o:List Nat}(ho:Part (Zaq b.2.1 i).length 0 o):Kin a (ZbO b i (ZaG (Zaq b.2.1 i) o)):=
 h.put (h.lay hi) (Zl5 (Zin h.ok (h.lay hi)) ho)
theorem Zsh {a b:Lv}(h:Kin a b){i:Nat}(hi:i<a.2.1.length){o:List Nat}(ho:Part (Zaq b.2.1 i).length 0 o):
  Za2 (ZbO b i (ZaG (Zaq b.2.1 i) o))-Za2 b=Zan (Zag (orM b i)) o-Zan (Zag (orM b i)) (List.range (Zaq b.2.1 i).length):=by
 rw[ZpH _ _ ho,ZpH _ _ (Zqa _)];exact ZwC h.ok (h.arr hi ho).ok (h.lay hi) ho
theorem ZkN {a b:Lv}(h:Kin a b){i:Nat}(hi:i<a.2.1.length):Kin a (Zep b i):=h.arr hi (ZlX b i)
theorem Znx {a b:Lv}(h:Kin a b){i:Nat}(hi:i<a.2.1.length)(hb:Ze9 b i=true):Za2 (Zep b i)<Za2 b:=by
 have h1:=Zsh h hi (ZlX b i);have h2:=(Znw (orM b i)).2;rw[Ze9,uG,h2]at hb;rw[Zep];omega
theorem Zzp (a:Lv):0<=Za2 a:=by
 have:=ZiU (f:=λ i=>ZbP a i) (c:=360000000000) a.2.1.length λ i _=>ZmZ a i
 exact this.1
def ZbX :Nat->Lv->Nat->Lv
 |0,b,_=>b
 |f+1,b,i=>if i<b.2.1.length then(if(Zb4 b i).2 then ZbX f (Zep b i) 0 else ZbX f b (i+1))else b
def ZdI (b:Lv)(i:Nat):Nat:=(Za2 b).toNat*(b.2.1.length+1)+(b.2.1.length-i)
def Zdu (a:Lv):Lv:=ZbX (ZdI a 0) a 0
theorem Zps {b:Lv}{i:Nat}(h:i<b.2.1.length):ZdI b (i+1)<ZdI b i:=by
 simp only[ZdI];omega
theorem Zpr {a b:Lv}(h:Kin a b){i:Nat}(hi:i<a.2.1.length)(hb:Ze9 b i=true):ZdI (Zep b i) 0<ZdI b i:=by
 have h1:=Znx h hi hb;have h2:=Zzp (Zep b i);have h3:(Zep b i).2.1.length=b.2.1.length:=by rw[(ZkN h hi).len,h.len]
 have h4:=h.len;rw[ZdI,ZdI,h3];have h5:((Za2 (Zep b i)).toNat+1)*(b.2.1.length+1)<=(Za2 b).toNat*(b.2.1.length+1):=yF _ (by omega);rw[qE]at h5;omega
theorem Zqd {f:Nat}{b:Lv}{i:Nat}(h:¬i<b.2.1.length):ZbX f b i=b:=by
 cases f with
 |zero=>rfl
 |succ f=>rw[ZbX,if_neg h]
theorem Zj2 {a:Lv}:∀(f:Nat) (b:Lv) (i:Nat),Kin a b->ZdI b i<=f->i<=a.2.1.length->(∀j,j<i->(Zb4 b j).2=false)->
  Kin a (ZbX f b i)/\Za2 (ZbX f b i)<=Za2 b/\∀j,j<a.2.1.length->(Zb4 (ZbX f b i) j).2=false
 |0,b,i,h,hm,hi,hj=>by
  have h4:=h.len;simp only[ZdI]at hm;rw[ZbX];exact⟨h,gC _,λ j hlt=>hj j (by omega)⟩
 |f+1,b,i,h,hm,hi,hj=>by
  have h4:=h.len;by_cases hlt:i<b.2.1.length
  ·rw[ZbX,if_pos hlt];rcases hb:(Zb4 b i).2 with _|_
   ·rw[if_neg (by decide)];refine Zj2 f b (i+1) h (by have:=Zps hlt;omega) (by omega) λ j hlj=>?_
    rcases uF j i with c|c
    ·exact hj j c
    ·obtain rfl:j=i:=by omega
     exact hb
   ·rw[if_pos rfl];have hb2:=(ZkM hb).2;have h5:=Zpr h (by omega) hb2;have h6:=Znx h (by omega) hb2;obtain⟨g1,g2,g3⟩:=Zj2 f (Zep b i) 0 (ZkN h (by omega)) (by omega) (uJ _) (λ j hlj=>absurd hlj (zL j));exact⟨g1,by omega,g3⟩
  ·rw[Zqd hlt];exact⟨h,gC _,λ j hlt2=>hj j (by omega)⟩
theorem ZwU {a:Lv}(hv:Zay a=true)(hw:wide a):Kin a (Zdu a)/\Za2 (Zdu a)<=Za2 a/\∀j,j<a.2.1.length->(Zb4 (Zdu a) j).2=false:=
 Zj2 _ a 0 (Kin.refl hv hw) (uH _) (uJ _) (λ j hlj=>absurd hlj (zL j))
def ZjS (a:Lv)(i:Int):Bool:=Zay a&&decide (0<=i/\i<a.2.1.length)&&decide (¬8<(Zaq a.2.1 i.toNat).length)&& !Ze9 a i.toNat
end Go.Proofs.YtjjbhjnpeenbkaaGreatDoor
namespace Go.Proofs.YtjjbhjnpeenbkaaGreatDoor
open Go Go.PS Go.Proofs
set_option maxRecDepth 100000
attribute [local irreducible] Zab wpG Zaa Zaf
abbrev elD (v:Nat->Int)(p:Nat->List D)(k:Nat):D:= .ag [.int (v k), .sl (p k)]
theorem Zzb (v:Nat->Int)(p:Nat->List D)(g:Nat)(a b n N:Nat)(L:Nat->List Nat)(hlen:∀i,(L i).length=N)(hN:N<=1000000)(ha:a+n<=N)(hb:b+n<=N)
  (hstep:∀i,i<n->∃u w,(L i)[a+i]? =some u/\(L i)[b+i]? =some w/\((L i).set (a+i) w).set (b+i) u=L (i+1)):
  Zaf Tryz.prog 292 [.ref 1000 2 0 N N, .int a, .int b, .int n, .d (.fn g [])] [(1000, .row 2 ((L 0).map (elD v p)))] (.tup []) [(1000, .row 2 ((L n).map (elD v p)))]:=by
 refine kM Tryz.func292 ?_;intro B X w0;refine ZcQ ?_;refine kw1 kO kc0 kc0 ?_;refine Zai (λ(i:Nat)=>i<=n) (λ i=>[(0, .ref 1000 2 0 N N),(1, .int a),(2, .int b),(3, .int n),(10, .int i)]) (λ i=>[(1000, .row 2 ((L i).map (elD v p)))]) (λ i=>n-i) 0 ?_ ?_ ?_
 ·exact uJ _
 ·exact kN kc0 []
 ·intro i hi;rcases uF i n with hlt|hge
  ·obtain⟨u,w,hu,hw,hs⟩:=hstep i hlt;have hl:=hlen i;have e1:((a:Int)+i).toNat=a+i:=by omega
   have e2:((b:Int)+i).toNat=b+i:=by omega
   have hs2:(((L i).map (elD v p)).set (a+i) (elD v p w)).set (b+i) (elD v p u)=(L (i+1)).map (elD v p):=by rw[<-hs,yR,yR]
   have hz:((L i).set (a+i) w)[b+i]? =some w:=by
    rw[qD];by_cases c:a+i=b+i
    ·rw[if_pos c,if_pos (by omega)]
    ·rw[if_neg c,hw]
   have hz2:(((L i).map (elD v p)).set (a+i) (elD v p w))[b+i]? =some (elD v p w):=by rw[<-yR,uI,hz];rfl
   refine kw1 kO (kc8 e1 e2 hu hw hl @yL.{0} hz2 hs2) kc0 ?_;refine⟨i+1,?_,kN (kc1 hs2) [],?_⟩
   ·omega
   ·omega
  ·have:i=n:=by omega
   subst this;refine kw1 kO kc0 kc0 ?_;refine⟨_,Zbg.1 (kN (L:=[]) (M:=[(1000, .row 2 ((L i).map (elD v p)))]) kc0 []),?_⟩;exact⟨⟨[],rfl,trivial⟩,fmc ⟨rfl,fmn⟩⟩
theorem Zgj {α:Type}(A:List α)(u w:α)(C:List α):(A++u::C).set A.length w=A++w::C:=by
 rw[Bo,if_neg (Nat.lt_irrefl _),gZ];rfl
theorem ZgG {α:Type}(A:List α)(u:α)(C:List α):(A++u::C)[A.length]? =some u:=by
 rw[yZ (uH _),gZ];rfl
theorem ZfM {α:Type}{l:List α}{i:Nat}{u:α}(h:l[i]? =some u):l.drop i=u::l.drop (i+1):=by
 obtain⟨hl,rfl⟩:=uB.1 h;exact gL hl
def swN (X U Y V Z:List Nat)(i:Nat):List Nat:=X++V.take i++U.drop i++Y++U.take i++V.drop i++Z
theorem Zza {X U Y V Z:List Nat}(h:U.length=V.length){i:Nat}(hi:i<U.length):
  ∃u w,(swN X U Y V Z i)[X.length+i]? =some u/\(swN X U Y V Z i)[X.length+U.length+Y.length+i]? =some w/\((swN X U Y V Z i).set (X.length+i) w).set (X.length+U.length+Y.length+i) u=swN X U Y V Z (i+1):=by
 obtain⟨u,hu⟩:=Zad hi;obtain⟨w,hw⟩:=Zad (l:=V) (k:=i) (by omega);have e1:swN X U Y V Z i=(X++V.take i)++u::((U.drop (i+1)++Y++U.take i)++w::(V.drop (i+1)++Z)):=by
  rw[swN,ZfM hu,ZfM hw];simp
 have e2:swN X U Y V Z i=((X++V.take i)++u::(U.drop (i+1)++Y++U.take i))++w::(V.drop (i+1)++Z):=by rw[e1];simp
 have l1:(X++V.take i).length=X.length+i:=by rw[uC,uS];omega
 have l2:((X++V.take i)++u::(U.drop (i+1)++Y++U.take i)).length=X.length+U.length+Y.length+i:=by
  simp only[uC,uV,uS,qP];omega
 have l3:((X++V.take i)++w::(U.drop (i+1)++Y++U.take i)).length=X.length+U.length+Y.length+i:=by
  simp only[uC,uV,uS,qP];omega
 refine⟨u,w,?_,?_,?_⟩
 ·rw[e1,<-l1];exact ZgG _ _ _
 ·rw[e2,<-l2];exact ZgG _ _ _
 ·rw[e1,<-l1,Zgj];have e3:(X++V.take i)++w::((U.drop (i+1)++Y++U.take i)++w::(V.drop (i+1)++Z))=((X++V.take i)++w::(U.drop (i+1)++Y++U.take i))++w::(V.drop (i+1)++Z):=by simp
  rw[e3,<-l3,Zgj,swN,ZaD hw,ZaD hu];simp
theorem ZmG (v:Nat->Int)(p:Nat->List D)(g:Nat)(X U Y V Z:List Nat)(h:U.length=V.length)(N:Nat)(hN:X.length+U.length+Y.length+V.length+Z.length=N)(hN1:N<=1000000)(a b n:Int)
  (ha:a=X.length)(hb:b=(X.length+U.length+Y.length:Nat))(hn:n=U.length):
  Zaf Tryz.prog 292 [.ref 1000 2 0 N N, .int a, .int b, .int n, .d (.fn g [])] [(1000, .row 2 ((X++U++Y++V++Z).map (elD v p)))] (.tup []) [(1000, .row 2 ((X++V++Y++U++Z).map (elD v p)))]:=by
 have hm:=Zzb v p g X.length (X.length+U.length+Y.length) U.length N (swN X U Y V Z) (λ i=>by
  rw[swN];simp only[uC,uS,qP];omega) hN1 (by omega) (by omega) (λ i hi=>Zza h hi)
 have e0:swN X U Y V Z 0=X++U++Y++V++Z:=by rw[swN];simp
 have e1:swN X U Y V Z U.length=X++V++Y++U++Z:=by
  rw[swN,uD (l:=V) (by omega),gW (l:=U) (uH _),uD (l:=U) (uH _),gW (l:=V) (by omega)];simp
 rw[e0,e1]at hm;rw[ha,hb,hn];exact hm
theorem Zxf (v:Nat->Int)(p:Nat->List D)(g:Nat)(P U V Q:List Nat)(hU:0<U.length)(hV:0<V.length)(N:Nat)(hN:P.length+U.length+V.length+Q.length=N)(hN1:N<=1000000)(a m b:Int)
  (ha:a=P.length)(hm:m=(P.length+U.length:Nat))(hb:b=(P.length+U.length+V.length:Nat)):
  Zaf Tryz.prog 290 [.ref 1000 2 0 N N, .int a, .int m, .int b, .d (.fn g [])] [(1000, .row 2 ((P++U++V++Q).map (elD v p)))] (.tup []) [(1000, .row 2 ((P++V++U++Q).map (elD v p)))]:=by
 subst ha hm hb;obtain⟨M,hM⟩:∃M,M=P.length+U.length:=⟨_,rfl⟩;obtain⟨R,hR⟩:∃R,R=P++V++U++Q:=⟨_,rfl⟩;rw[<-hR,<-hM];have d1:((M+V.length:Nat):Int)-(M:Int)=V.length:=by omega
 have d2:(M:Int)-(P.length:Int)=U.length:=by omega
 refine kM Tryz.func290 ?_;intro B X w0;refine ZcQ ?_;refine kw1 kO (kc2 d1 d2) kc0 ?_;refine Zai (λ(q:List Nat×List Nat×List Nat×List Nat)=>match q with|(P,U,V,Q)=>0<U.length/\0<V.length/\P.length+U.length=M/\P.length+U.length+V.length+Q.length=N/\P++V++U++Q=R) (λ(P,U,V,Q)=>[(0, .ref 1000 2 0 N N),(2, .int M),(4, .d (.fn g [])),(10, .int U.length),(11, .int V.length)]) (λ(P,U,V,Q)=>[(1000, .row 2 ((P++U++V++Q).map (elD v p)))]) (λ(P,U,V,Q)=>U.length+V.length) (P,U,V,Q) ?_ ?_ ?_
 ·exact⟨hU,hV,hM.symm,by omega,hR.symm⟩
 ·exact kN kc0 []
 ·rintro⟨P,U,V,Q⟩ ⟨hU,hV,hM,hN,hR⟩;dsimp only at hU hV hM hN hR|-;rcases Aw U.length V.length with hlt|heq|hgt
  ·obtain⟨V1,V2,rfl,hl⟩:∃V1 V2,V=V1++V2/\V2.length=U.length:=⟨V.take (V.length-U.length),V.drop (V.length-U.length),(yU _ _).symm,by rw[qP];omega⟩;rw[uC]at hlt hN;have h1:=ZmG v p g P U V1 V2 Q hl.symm N (by omega) hN1 ((M:Int)-(U.length:Int)) ((M:Int)+((V1++V2).length:Int)-(U.length:Int)) U.length (by omega) (by rw[uC];omega) rfl;have e0:P++U++(V1++V2)++Q=P++U++V1++V2++Q:=by simp
   have e1:P++V2++V1++U++Q=P++V2++V1++(U++Q):=by simp
   have e2:((V1++V2).length:Int)-(U.length:Int)=V1.length:=by rw[uC];omega
   have b1:(V1++V2).length<=1000000:=by rw[uC];omega
   have b2:U.length<(V1++V2).length:=by rw[uC];omega
   rw[<-e0]at h1;have b3:(V1++V2).length=V1.length+V2.length:=uC;generalize hVV:V1++V2=VV at*;refine kw1 kO kc0 (kc1 (kmc [] h1)) ?_;refine⟨(P,V2,V1,U++Q),?_,kN (kc3 e1 e2 hl) [],?_⟩
   ·dsimp only;refine⟨by omega,by omega,by omega,?_,?_⟩
    ·rw[uC];omega
    ·rw[<-hR,<-hVV];simp
   ·dsimp only;omega
  ·have h1:=ZmG v p g P U [] V Q heq N (by simp only[uY];omega) hN1 ((M:Int)-(V.length:Int)) M V.length (by omega) (by simp only[uY];omega) (by omega);rw[yO,yO]at h1;refine kw1 kO (kc1 heq) (kc1 (kmc [] h1)) ?_;refine⟨_,Zbg.1 (kN (L:=[]) (M:=[(1000, .row 2 ((P++V++U++Q).map (elD v p)))]) kc0 []),?_⟩;rw[hR];exact⟨⟨[],rfl,trivial⟩,fmc ⟨rfl,fmn⟩⟩
  ·obtain⟨U1,U2,rfl,hl⟩:∃U1 U2,U=U1++U2/\U1.length=V.length:=⟨U.take V.length,U.drop V.length,(yU _ _).symm,by rw[uS];omega⟩;rw[uC]at hgt hN;have h1:=ZmG v p g P U1 U2 V Q hl N (by omega) hN1 ((M:Int)-((U1++U2).length:Int)) M V.length (by rw[uC]at hM|-;omega) (by rw[uC]at hM;omega) (by omega);have e0:P++(U1++U2)++V++Q=P++U1++U2++V++Q:=by simp
   have e1:P++V++U2++U1++Q=(P++V)++U2++U1++Q:=by simp
   have e2:((U1++U2).length:Int)-(V.length:Int)=U2.length:=by rw[uC];omega
   have b1:(U1++U2).length<=1000000:=by rw[uC];omega
   have b2:V.length<(U1++U2).length:=by rw[uC];omega
   rw[<-e0]at h1;have b3:(U1++U2).length=U1.length+U2.length:=uC;generalize hUU:U1++U2=UU at*;refine kw1 kO kc0 (kc1 (kmc [] h1)) ?_;refine⟨(P++V,U2,U1,Q),?_,kN (kc3 e1 e2 hl) [],?_⟩
   ·dsimp only;refine⟨by omega,by omega,?_,?_,?_⟩
    ·rw[uC];omega
    ·rw[uC];omega
    ·rw[<-hR,<-hUU];simp
   ·dsimp only;omega
open Go.Stb
def ZcX (c:Nat->Nat->Int)(R:Nat->Nat->Prop)(s x:Nat):Prop:=c x s<0↔R x s
theorem Zsp {c:Nat->Nat->Int}{R:Nat->Nat->Prop}{M:List Nat}(h:M.Pairwise (ZcX c R)){k x s:Nat}(hx:M[k]? =some x)(hs:s∈M.take k):ZcX c R s x:=by
 rw[<-yU k M]at h;exact(yX.1 h).2.2 s hs x (by rw[ZfM hx];simp)
theorem Zvq {M:List Nat}(h:M.Nodup){k x s:Nat}(hx:M[k]? =some x)(hs:s∈M.take k):s≠x:=by
 rw[<-yU k M,gV]at h;exact h.2.2 s hs x (by rw[ZfM hx];simp)
theorem ZuH (v:Nat->Int)(p:Nat->List D)(g:Nat)(c:Nat->Nat->Int)(R:Nat->Nat->Prop)(hR:Ord R)(hcmp:∀j k,Zaa Tryz.prog g [elD v p j,elD v p k] (.int (c j k)))
  (P M Q T:List Nat)(hb:M.Pairwise (ZcX c R))(hnd:M.Nodup)(hT:T.Perm M)(hTs:T.Pairwise R)(N:Nat)(hN:P.length+M.length+Q.length=N)(hN1:N<=1000000)(a e:Int)(ha:a=P.length)(he:e=(P.length+M.length:Nat)):
  Zaf Tryz.prog 280 [.ref 1000 2 0 N N, .int a, .int e, .d (.fn g [])] [(1000, .row 2 ((P++M++Q).map (elD v p)))] (.tup []) [(1000, .row 2 ((P++T++Q).map (elD v p)))]:=by
 subst ha he;obtain⟨A,hA⟩:∃A,A=P.length:=⟨_,rfl⟩;rw[<-hA];refine kM Tryz.func280 ?_;intro B X w0;refine ZcQ ?_;refine kw1 kO kc0 kc0 ?_;refine Zai (λ(q:Nat×List Nat)=>match q with|(k,S)=>1<=k/\k<=M.length+1/\S.Pairwise R/\S.Perm (M.take k)) (λ(k,S)=>[(0, .ref 1000 2 0 N N),(1, .int A),(2, .int ((A+M.length:Nat):Int)),(3, .d (.fn g [])),(8, .int ((A+k:Nat):Int))]) (λ(k,S)=>[(1000, .row 2 ((P++S++M.drop k++Q).map (elD v p)))]) (λ(k,S)=>M.length+1-k) (1,M.take 1) ?_ ?_ ?_
 ·refine⟨uH _,by omega,?_,zH _⟩;rcases M with _|⟨x,M⟩
  ·exact List.Pairwise.nil
  ·exact jY _ _
 ·have e0:P++M.take 1++M.drop 1++Q=P++M++Q:=by rw[yP P,yU]
  exact kN (kc3 e0 @qI @gP) []
 ·rintro⟨k,S⟩ ⟨hk1,hk2,hSs,hSp⟩;dsimp only at hk1 hk2 hSs hSp|-;have hSl:=hSp.length_eq;rw[uS]at hSl;rcases uF k M.length with hlt|hge
  ·obtain⟨x,hx⟩:=Zad hlt;have hdr:=ZfM hx;have hSx:∀s,s∈S->ZcX c R s x/\s≠x:=λ s hs=>⟨Zsp hb hx (hSp.mem_iff.1 hs),Zvq hnd hx (hSp.mem_iff.1 hs)⟩
   generalize hQ2:M.drop (k+1)++Q=Q2 at*;have hQl:Q2.length+k+1=M.length+Q.length:=by rw[<-hQ2,uC,qP];omega
   refine kw1 kO kc0 kc0 ?_;refine Zai (λ(q:List Nat×List Nat)=>match q with|(S1,S2)=>S1++S2=S/\(∀s,s∈S2->R x s)) (λ(S1,S2)=>[(0, .ref 1000 2 0 N N),(1, .int A),(2, .int ((A+M.length:Nat):Int)),(3, .d (.fn g [])),(8, .int ((A+k:Nat):Int)),(9, .int ((A+S1.length:Nat):Int))]) (λ(S1,S2)=>[(1000, .row 2 ((P++S1++x::(S2++Q2)).map (elD v p)))]) (λ(S1,S2)=>S1.length) (S,[]) ?_ ?_ ?_
   ·exact⟨yO _,λ s hs=>by cases hs⟩
   ·have e0:P++S++M.drop k++Q=P++S++x::Q2:=by rw[hdr,<-hQ2];simp
    have e1:S.length=k:=by omega
    exact kN (kc3 e0 e1 @gF.{0}) []
   ·rintro⟨S1,S2⟩ ⟨hSS,hS2⟩;dsimp only at hSS hS2|-;have hl0:S1.length+S2.length=k:=by
     have:=qW List.length hSS;rw[uC]at this;omega
    have hdone:S1=[]\/(∃S3 s,S1=S3++[s]):=by
     rcases Bb S1 with h|⟨l,z,h⟩
     ·exact .inl h
     ·exact .inr ⟨l,z,by rw[h,Bc]⟩
    have hfin:(∀s,s∈S1->R s x)->(S1++x::S2).Pairwise R/\(S1++x::S2).Perm (M.take (k+1)):=λ h=>by
     refine⟨ZuD hR (by rw[hSS];exact hSs) h hS2,?_⟩;rw[ZaD hx];refine zC.trans ?_;rw[hSS];exact(List.perm_append_comm (l₁:=[x]) (l₂:=S)).trans (hSp.append_right [x])
    have hrow:P++S1++x::(S2++Q2)=P++(S1++x::S2)++M.drop (k+1)++Q:=by rw[<-hQ2];simp
    have hkk:((A+k:Nat):Int)+1=((A+(k+1):Nat):Int):=by omega
    rcases hdone with rfl|⟨S3,s,rfl⟩
    ·obtain⟨f1,f2⟩:=hfin (λ s hs=>by cases hs);have z0:A+([]:List Nat).length=A:=rfl;rw[z0];refine kw1 kO kc0 kc0 ?_;have hrow0:P++x::(S2++Q2)=P++x::S2++M.drop (k+1)++Q:=by rw[<-hQ2];simp
     refine⟨(k+1,x::S2),?_,kN (kc2 @hrow0 hkk) [],?_⟩
     ·exact⟨by omega,by omega,f1,f2⟩
     ·dsimp only;omega
    ·obtain⟨hbk,hne⟩:=hSx s (by rw[<-hSS];simp);have h1:=hcmp x s;rw[uC,qN]at hl0;obtain⟨J,hJ⟩:∃J,J=A+S3.length:=⟨_,rfl⟩;have z0:A+(S3++[s]).length=J+1:=by rw[uC,qN];omega
     have g1:(P++(S3++[s])++x::(S2++Q2))[J+1]? =some x:=by
      rw[<-z0,hA,<-uC];exact ZgG _ _ _
     have rw1:P++(S3++[s])++x::(S2++Q2)=(P++S3)++s::x::(S2++Q2):=by simp
     have hPJ:(P++S3).length=J:=by rw[uC];omega
     have g2:(P++(S3++[s])++x::(S2++Q2))[J]? =some s:=by rw[rw1,<-hPJ];exact ZgG _ _ _
     have hln:(P++(S3++[s])++x::(S2++Q2)).length=N:=by
      simp only[uC,uV,uY];omega
     have hst:((P++(S3++[s])++x::(S2++Q2)).set (J+1) s).set J x=P++S3++x::(s::S2++Q2):=by
      have r1:(P++(S3++[s])++x::(S2++Q2)).set (J+1) s=(P++S3)++s::s::(S2++Q2):=by
       rw[<-z0,hA,<-uC,Zgj];simp
      rw[r1,<-hPJ,Zgj];simp
     have g3:((P++(S3++[s])++x::(S2++Q2)).set (J+1) s)[J]? =some s:=by
      rw[qD,if_neg (by omega),g2]
     rw[z0];rw[hrow]at*;generalize hLL:P++(S3++[s]++x::S2)++M.drop (k+1)++Q=LL at*;have g4:((LL.map (elD v p)).set (J+1) (elD v p s))[J]? =some (elD v p s):=by rw[<-yR,uI,g3];rfl
     have hs2:((LL.map (elD v p)).set (J+1) (elD v p s)).set J (elD v p x)=(P++S3++x::(s::S2++Q2)).map (elD v p):=by rw[<-hst,yR,yR]
     have n1:(((J+1:Nat):Int)-1).toNat=J:=by omega
     have n2:(((J+1:Nat):Int)).toNat=J+1:=by omega
     have n3:((J+1:Nat):Int)-1=(J:Int):=by omega
     by_cases hlt2:c x s<0
     ·refine kw1 kO (kc8 n1 n2 n3 g1 g2 hln hlt2 (kc3 @yL.{0} g4 hs2)) (kc1 h1) ?_;refine⟨(S3,s::S2),?_,kN (kc2 hs2 hJ) [],?_⟩
      ·dsimp only;exact⟨by rw[<-hSS];simp,λ z hz=>by
        rcases yH.1 hz with rfl|hz
        ·exact hbk.1 hlt2
        ·exact hS2 z hz⟩
      ·dsimp only;rw[uC,qN];omega
     ·have hsx:R s x:=by
       rcases hR.total s x hne with h|h
       ·exact h
       ·exact absurd (hbk.2 h) hlt2
      have hS1s:(S3++[s]).Pairwise R:=by
       rw[<-hSS]at hSs;exact(yX.1 hSs).1
      obtain⟨f1,f2⟩:=hfin (λ z hz=>by
       rcases yN.1 hz with hz|hz
       ·exact hR.trans z s x ((yX.1 hS1s).2.2 z hz s (by simp)) hsx
       ·rw[uR.1 hz];exact hsx)
      refine kw1 kO (kc7 n1 n2 n3 g1 g2 hln hlt2) (kc1 h1) ?_;refine⟨(k+1,S3++[s]++x::S2),?_,kN (kc2 hLL hkk) [],?_⟩
      ·exact⟨by omega,by omega,f1,f2⟩
      ·dsimp only;omega
  ·have hS:S=T:=by
    rw[uD hge]at hSp;exact ZgY hR (hSp.trans hT.symm) hSs hTs
   subst hS;refine kw1 kO kc0 kc0 ?_;have e0:P++S++M.drop k++Q=P++S++Q:=by rw[gW hge,yO]
   refine⟨_,Zbg.1 (kN (L:=[]) (M:=[(1000, .row 2 ((P++S++Q).map (elD v p)))]) (kc1 e0) []),?_⟩;exact⟨⟨[],rfl,trivial⟩,fmc ⟨rfl,fmn⟩⟩
end Go.Proofs.YtjjbhjnpeenbkaaGreatDoor
