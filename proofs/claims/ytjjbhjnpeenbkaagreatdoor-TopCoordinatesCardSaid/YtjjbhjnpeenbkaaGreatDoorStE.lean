/- Branch and bound: extend, all of it. -/
import Derived.Test.YtjjbhjnpeenbkaaGreatDoorSo
import Derived.Test.YtjjbhjnpeenbkaaGreatDoorPSMac
import Derived.Test.YtjjbhjnpeenbkaaGreatDoorN
import Derived.Test.YtjjbhjnpeenbkaaGreatDoorD
import Derived.Test.YtjjbhjnpeenbkaaGreatDoorTypes
import Derived.Test.YtjjbhjnpeenbkaaGreatDoorPSMerge
import Derived.Test.YtjjbhjnpeenbkaaGreatDoorPSFam
set_option linter.unusedSimpArgs false
set_option linter.unusedVariables false
set_option maxHeartbeats 16000000
namespace Go.Proofs.YtjjbhjnpeenbkaaGreatDoor
open Go Go.PS Go.Proofs
open Go.Bd (sm Zam ZbF low Part Zbn Za9 ZbX Zby ZcS Zdt ZcV)
set_option maxRecDepth 100000
attribute [local irreducible] Zac wpG Zaa Zag
def Zbz (m:List (List Int))(l:List Nat)(v k:Nat):Int:=sm (λ w=>if w≠v/\w∉l then Zai m v w else 0) k
def ZbD (m:List (List Int))(l:List Nat)(v k:Nat):Int:=sm (λ w=>if w≠v/\w∉l then min (Zai m v w) (Zai m w v)else 0) k
theorem ZpO {ids:List Nat}{S:St}{o o2:Nat}(h1:o∈ids)(h2:o2<1000\/2000<=o2)(h:ZbO ids S.objs):
  ZbO ids (λ x=>if x=o then .gone else if x=o2 then(S.objs o).ren (mvG o o2)else(S.objs x).ren (mvG o o2)):=λ i a b hi=>by
 dsimp only;rw[if_neg (λ e:i=o=>hi (e▸h1)),if_neg (by omega),h i a b hi];rfl
theorem ZgT {m:List (List Int)}{l:List Nat}{v k:Nat}(h:¬(k≠v/\k∉l)):Zbz m l v (k+1)=Zbz m l v k:=by rw[Zbz,sm,if_neg h,jT];rfl
theorem Zj3 {m:List (List Int)}{l:List Nat}{v k:Nat}(h:k≠v/\k∉l):Zbz m l v (k+1)=Zbz m l v k+Zai m v k:=by rw[Zbz,sm,if_pos h];rfl
theorem ZgX {m:List (List Int)}{l:List Nat}{v k:Nat}(h:¬(k≠v/\k∉l)):ZbD m l v (k+1)=ZbD m l v k:=by rw[ZbD,sm,if_neg h,jT];rfl
theorem ZkT {m:List (List Int)}{l:List Nat}{v k:Nat}(h:k≠v/\k∉l):ZbD m l v (k+1)=ZbD m l v k+min (Zai m v k) (Zai m k v):=by rw[ZbD,sm,if_pos h];rfl
theorem ZzN (m:List (List Int))(hs:Sq m)(h8:m.length<=8):∀(f:Nat) (l:List Nat),Part m.length f l->∀(st:Option (List Nat×Int)) (cost rest:Int),ExtIn m l st cost rest->Zfx m f l st cost rest:=by
 intro f
 induction f with
 |zero=>
  intro l hp st cost rest hi;have hll:=hp.len;rcases hsh:ZcV st (cost+rest)with _|_
  ·exact ZuP m hs h8 l hp st cost rest hi hsh
  ·exact ZoE m 0 l st cost rest hi (by omega) hsh (by rw[ZbX,if_pos hsh])
 |succ f IH=>
  intro l hp st cost rest hi;have hll:=hp.len;rcases hsh:ZcV st (cost+rest)with _|_
  ·rw[Zfx,Go.Bd.ext_foldE,if_neg (by rw[hsh];decide)];have hlen:=Zvk (cost:=cost) (rest:=rest) (c:=Zai m) hp hi.len;have hIH:∀v,v<m.length->v∉l->Zfx m f (l++[v]) (Zby (Zai m) m.length f l cost rest st v) (cost+Zbz m l v m.length) (rest-ZbD m l v m.length):=λ v hv hm=>by
    have b1:0<=Zbz m l v m.length/\Zbz m l v m.length<=1000000*m.length:=Go.Bd.more_bounds hs.small l hv m.length (uH _);have b2:0<=ZbD m l v m.length/\ZbD m l v m.length<=1000000*m.length:=Go.Bd.less_bounds hs.small l hv m.length (uH _);have b3:=hi.c0;have b4:=hi.c1;have b5:=hi.r0;have b6:=hi.r1;refine IH _ (hp.snoc hv hm) _ _ _ ⟨hlen v (by omega), .inl (by omega),by omega,?_,?_,by omega⟩
    ·rw[uC,qN,kY];simp only[uX,uZ];omega
    ·rw[uC,qN,kY];simp only[uX,uZ];omega
   obtain⟨st0,hst0⟩:∃st0,st=st0:=⟨_,rfl⟩;rw[hst0]at hlen hIH|-;obtain⟨hbl,hpos,c0,c1,r0,r1⟩:=hi;obtain⟨⟨be,ke⟩,hend⟩:∃s,Zby (Zai m) m.length f l cost rest st0 m.length=some s:=by
    obtain⟨s,hx⟩:=Go.Bd.ext_some (c:=Zai m) (f+1) l hp cost rest st0;rw[Go.Bd.ext_foldE,if_neg (by rw[<-hst0,hsh];decide)]at hx;exact⟨s,hx⟩
   rw[hend]
   all_goals
    rw[<-hst0];rcases st with _|⟨b,k⟩
    all_goals simp only[bPV,lI]
    all_goals
     refine kM Tryz.func179 ?_
    all_goals intro B X w0
    all_goals refine Zdb ?_
    ·have hnl:¬(l.length:Int)=m.length:=by omega
     refine kw1 kO (kc1 hnl) kc0 ?_;refine Zaf (λ(v:Nat)=>v<=m.length) (λ v=>[(0, .ptr 1000 0 0 0),(1, .int cost),(2, .int rest),(51, .d (Zae m)),(52, .int m.length),(53, .int v)]) (λ v=>[(1000, .cells [.d (Zae m), .ref 901 1 0 l.length l.length,bPV (Zby (Zai m) m.length f l cost rest st0 v), .int (lI (Zby (Zai m) m.length f l cost rest st0 v))]),(1001, .gone),(901, .row 1 (l.map Zax))]) (λ v=>m.length-v) 0 ?_ ?_ ?_
     ·exact uI _
     ·try dsimp only
      rw[Go.Bd.foldE_zero,<-hst0];exact Zbm.2 (Ent.trans (ZjP 1001 901 rfl (by decide) (by decide)) (Zbm.1 (eL [] _ _ (by refine⟨?_,?_⟩<;>(repeat' first|exact yB _|refine uM.2 ⟨(by first|rfl|(simp(disch:=omega) only[go_sem,simprocAttr,inL,bPV,lI];first|done|omega|(congr 1;done))),?_⟩);done) (h7:=ZpO (by simp) (by decide) (by repeat' first|exact ZfN|exact Zf3 _ rfl|refine ZfW rfl ?_)))))
     ·intro v hv;have hlv:=hlen v hv;rcases uF v m.length with hlt|hge
      ·have hin:=Zic l v;by_cases hm:v∈l
       ·rw[yN hm]at hin;have e1:=Go.Bd.foldE_in (Zai m) m.length (f:=f) (cost:=cost) (rest:=rest) (st:=st0) hm;rcases hst:Zby (Zai m) m.length f l cost rest st0 v with _|⟨b0,k0⟩<;>rw[hst]at e1<;>simp only[bPV,lI]
        all_goals
         refine kw1 kO (kc1 @Zat) (kc1 hin) ?_;refine⟨v+1,?_,?_,?_⟩
         ·omega
         ·try dsimp only
          rw[e1];exact kN (kc2 @bPV.eq_1 @lI.eq_1) []
         ·omega
       ·rw[yE hm]at hin;have e1:=Go.Bd.foldE_out (Zai m) m.length (f:=f) (cost:=cost) (rest:=rest) (st:=st0) hm;have ih:=hIH v hlt hm;have en:(((l.length+1:Nat):Int)-1).toNat=l.length:=by omega
        have hT:(l.map Zax++[Zax v]).take l.length=l.map Zax:=List.take_left' (uD ..);rcases hst:Zby (Zai m) m.length f l cost rest st0 v with _|⟨b0,k0⟩
        all_goals
         rw[hst]at e1 ih;have e3:Zby (Zai m) m.length f l cost rest st0 (v+1)=ZbX (Zai m) m.length f (l++[v]) (cost+Zbz m l v m.length) (rest-ZbD m l v m.length) _:=e1;rw[Zfx,<-e3]at ih;obtain⟨⟨b2,k2⟩,hst2⟩:∃s,Zby (Zai m) m.length f l cost rest st0 (v+1)=some s:=by
          rw[e3];exact Go.Bd.ext_some f (l++[v]) (hp.snoc hlt hm) _ _ _
         rw[hst2]at ih e3;simp only[bPV,lI,uC,uX,uZ,uU,uV,yS,qQ]at ih|-
        ·refine kw1 kO (kc1 @Zat) (kc1 hin) ?_;refine Zaf (λ(w:Nat)=>w<=m.length) (λ w=>[(0, .ptr 1000 0 0 0),(1, .int cost),(2, .int rest),(6, .int v),(7, .int (Zbz m l v w)),(8, .int (ZbD m l v w)),(51, .d (Zae m)),(52, .int m.length),(53, .int v),(65, .d (Zae m)),(66, .int m.length),(67, .int w)]) (λ w=>[(1000, .cells [.d (Zae m), .ref 901 1 0 l.length l.length, .nilS, .int 0]),(1001, .gone),(901, .row 1 (l.map Zax))]) (λ w=>m.length-w) 0 ?_ ?_ ?_
         ·exact uI _
         ·exact eL [] _ _ (by refine⟨?_,?_⟩<;>(repeat' first|exact fmn|refine fmc ⟨(by first|rfl|(simp(disch:=omega) only[go_sem,simprocAttr,inL,Zbz,ZbD,sm];first|done|omega|(congr 1;done))),?_⟩);done)
         ·intro w hw;have b1:0<=Zbz m l v w/\Zbz m l v w<=1000000*w:=Go.Bd.more_bounds hs.small l hlt w hw;have b2:0<=ZbD m l v w/\ZbD m l v w<=1000000*w:=Go.Bd.less_bounds hs.small l hlt w hw;rcases uF w m.length with hlw|hgw
          ·obtain⟨p,hp1,hp2,hp3,hp4,hp5⟩:=hs.get hlt hlw;obtain⟨q,hq1,hq2,hq3,hq4,hq5⟩:=hs.get hlw hlt;have hcw:=Zic l w;by_cases d1:w=v
           ·have e1:=ZgT (m:=m) (l:=l) (v:=v) (k:=w) (λ h=>h.1 d1);have e2:=ZgX (m:=m) (l:=l) (v:=v) (k:=w) (λ h=>h.1 d1);have d1I:(w:Int)=v:=by omega
            refine kw1 kO (kc1 d1I) kc0 ?_;refine⟨w+1,?_,kN (kc2 e1 e2) [],?_⟩
            ·omega
            ·omega
           ·have d1I:¬(w:Int)=v:=by omega
            by_cases d2:w∈l
            ·have e1:=ZgT (m:=m) (l:=l) (v:=v) (k:=w) (λ h=>h.2 d2);have e2:=ZgX (m:=m) (l:=l) (v:=v) (k:=w) (λ h=>h.2 d2);rw[yN d2]at hcw;refine kw1 kO (kc2 d1I @Zat) (kc1 hcw) ?_;refine⟨w+1,?_,kN (kc2 e1 e2) [],?_⟩
             ·omega
             ·omega
            ·have e1:=Zj3 (m:=m) (l:=l) (v:=v) (k:=w) ⟨d1,d2⟩;have e2:=ZkT (m:=m) (l:=l) (v:=v) (k:=w) ⟨d1,d2⟩;rw[yE d2]at hcw;refine kw1 kO (kc7 d1I @Zat hp1 hp3 hq1 hq3 @ZjE) (kc1 hcw) ?_;refine⟨w+1,?_,kN (kc2 e1 e2) [],?_⟩
             ·omega
             ·omega
          ·have:w=m.length:=by omega
           subst this
           repeat' first|refine Zbt rfl ?_|refine ZaX ?_|refine wR ?_|refine rcM [(1001,125),(2000,904)] (ih) rfl ?_|(refine Zbv rfl rfl (λ hc=>?_) (λ hc=>?_)<;>try simp only[hcL]at hc)|(refine Zbx _ rfl rfl (λ hc=>?_) (λ hc=>?_)<;>(try simp only[hcL]at hc)<;>try omega)|simp(disch:=omega) only[go_sem,simprocAttr,roomy,Zat,en,zG]|exact Zhh v|apply And.intro|omega|decide+kernel
           refine⟨v+1,?_,?_,?_⟩
           ·omega
           ·try dsimp only
            rw[hst2];exact Zbm.2 (Ent.trans (Zle 904 1 _ l.length rfl) (Ent.trans (Zlz 1000 1 904 1 0 l.length (l.length+1) l.length rfl rfl (by omega)) (Zbm.1 (eL [(901,904)] _ _ (by refine⟨?_,?_⟩<;>(repeat' first|exact yB _|refine uM.2 ⟨(by first|rfl|(simp(disch:=omega) only[go_sem,simprocAttr,inL,hT,bPV,lI,Ad,kA];first|done|omega|(congr 1;done))),?_⟩);done)))))
           ·omega
        ·refine kw1 kO (kc1 @Zat) (kc1 hin) ?_;refine Zaf (λ(w:Nat)=>w<=m.length) (λ w=>[(0, .ptr 1000 0 0 0),(1, .int cost),(2, .int rest),(6, .int v),(7, .int (Zbz m l v w)),(8, .int (ZbD m l v w)),(51, .d (Zae m)),(52, .int m.length),(53, .int v),(65, .d (Zae m)),(66, .int m.length),(67, .int w)]) (λ w=>[(1000, .cells [.d (Zae m), .ref 901 1 0 l.length l.length, .d (Zcp b0), .int k0]),(1001, .gone),(901, .row 1 (l.map Zax))]) (λ w=>m.length-w) 0 ?_ ?_ ?_
         ·exact uI _
         ·exact eL [] _ _ (by refine⟨?_,?_⟩<;>(repeat' first|exact fmn|refine fmc ⟨(by first|rfl|(simp(disch:=omega) only[go_sem,simprocAttr,inL,Zbz,ZbD,sm];first|done|omega|(congr 1;done))),?_⟩);done)
         ·intro w hw;have b1:0<=Zbz m l v w/\Zbz m l v w<=1000000*w:=Go.Bd.more_bounds hs.small l hlt w hw;have b2:0<=ZbD m l v w/\ZbD m l v w<=1000000*w:=Go.Bd.less_bounds hs.small l hlt w hw;rcases uF w m.length with hlw|hgw
          ·obtain⟨p,hp1,hp2,hp3,hp4,hp5⟩:=hs.get hlt hlw;obtain⟨q,hq1,hq2,hq3,hq4,hq5⟩:=hs.get hlw hlt;have hcw:=Zic l w;by_cases d1:w=v
           ·have e1:=ZgT (m:=m) (l:=l) (v:=v) (k:=w) (λ h=>h.1 d1);have e2:=ZgX (m:=m) (l:=l) (v:=v) (k:=w) (λ h=>h.1 d1);have d1I:(w:Int)=v:=by omega
            refine kw1 kO (kc1 d1I) kc0 ?_;refine⟨w+1,?_,kN (kc2 e1 e2) [],?_⟩
            ·omega
            ·omega
           ·have d1I:¬(w:Int)=v:=by omega
            by_cases d2:w∈l
            ·have e1:=ZgT (m:=m) (l:=l) (v:=v) (k:=w) (λ h=>h.2 d2);have e2:=ZgX (m:=m) (l:=l) (v:=v) (k:=w) (λ h=>h.2 d2);rw[yN d2]at hcw;refine kw1 kO (kc2 d1I @Zat) (kc1 hcw) ?_;refine⟨w+1,?_,kN (kc2 e1 e2) [],?_⟩
             ·omega
             ·omega
            ·have e1:=Zj3 (m:=m) (l:=l) (v:=v) (k:=w) ⟨d1,d2⟩;have e2:=ZkT (m:=m) (l:=l) (v:=v) (k:=w) ⟨d1,d2⟩;rw[yE d2]at hcw;refine kw1 kO (kc7 d1I @Zat hp1 hp3 hq1 hq3 @ZjE) (kc1 hcw) ?_;refine⟨w+1,?_,kN (kc2 e1 e2) [],?_⟩
             ·omega
             ·omega
          ·have:w=m.length:=by omega
           subst this
           repeat' first|refine Zbt rfl ?_|refine ZaX ?_|refine wR ?_|refine rcM [(1001,125),(2000,904)] (ih) rfl ?_|(refine Zbv rfl rfl (λ hc=>?_) (λ hc=>?_)<;>try simp only[hcL]at hc)|(refine Zbx _ rfl rfl (λ hc=>?_) (λ hc=>?_)<;>(try simp only[hcL]at hc)<;>try omega)|simp(disch:=omega) only[go_sem,simprocAttr,roomy,Zat,en,zG]|exact Zhh v|apply And.intro|omega|decide+kernel
           refine⟨v+1,?_,?_,?_⟩
           ·omega
           ·try dsimp only
            rw[hst2];exact Zbm.2 (Ent.trans (Zle 904 1 _ l.length rfl) (Ent.trans (Zlz 1000 1 904 1 0 l.length (l.length+1) l.length rfl rfl (by omega)) (Zbm.1 (eL [(901,904)] _ _ (by refine⟨?_,?_⟩<;>(repeat' first|exact yB _|refine uM.2 ⟨(by first|rfl|(simp(disch:=omega) only[go_sem,simprocAttr,inL,hT,bPV,lI,Ad,kA];first|done|omega|(congr 1;done))),?_⟩);done)))))
           ·omega
      ·have:v=m.length:=by omega
       subst this;rw[hend];simp only[bPV,lI];refine kw1 kO kc0 kc0 ?_;refine⟨_,Zbm.1 (eL [(2000,901)] [] [(1000, .cells [.d (Zae m), .ref 2000 1 0 l.length l.length, .d (Zcp be), .int ke]),(1001, .gone),(2000, .row 1 (l.map Zax))] (by constructor<;>(repeat' first|exact yB _|refine uM.2 ⟨rfl,?_⟩);done)),?_⟩;exact⟨⟨[],rfl,trivial⟩,uM.2 ⟨rfl,uM.2 ⟨rfl,uM.2 ⟨rfl,yB _⟩⟩⟩⟩
    ·have hk:¬k<=cost+rest:=by simpa[ZcV]using hsh
     have hbl':=hbl _ rfl;have hnl:¬(l.length:Int)=m.length:=by omega
     have hne:(b.map Zax).isEmpty=false:=by
      cases b with
      |nil=>simp at hbl';omega
      |cons x b=>rfl
     refine kw1 kO (kc3 hne hk hnl) kc0 ?_;refine Zaf (λ(v:Nat)=>v<=m.length) (λ v=>[(0, .ptr 1000 0 0 0),(1, .int cost),(2, .int rest),(51, .d (Zae m)),(52, .int m.length),(53, .int v)]) (λ v=>[(1000, .cells [.d (Zae m), .ref 901 1 0 l.length l.length,bPV (Zby (Zai m) m.length f l cost rest st0 v), .int (lI (Zby (Zai m) m.length f l cost rest st0 v))]),(1001, .gone),(901, .row 1 (l.map Zax))]) (λ v=>m.length-v) 0 ?_ ?_ ?_
     ·exact uI _
     ·try dsimp only
      rw[Go.Bd.foldE_zero,<-hst0];exact Zbm.2 (Ent.trans (ZjP 1001 901 rfl (by decide) (by decide)) (Zbm.1 (eL [] _ _ (by refine⟨?_,?_⟩<;>(repeat' first|exact yB _|refine uM.2 ⟨(by first|rfl|(simp(disch:=omega) only[go_sem,simprocAttr,inL,bPV,lI];first|done|omega|(congr 1;done))),?_⟩);done) (h7:=ZpO (by simp) (by decide) (by repeat' first|exact ZfN|exact Zf3 _ rfl|refine ZfW rfl ?_)))))
     ·intro v hv;have hlv:=hlen v hv;rcases uF v m.length with hlt|hge
      ·have hin:=Zic l v;by_cases hm:v∈l
       ·rw[yN hm]at hin;have e1:=Go.Bd.foldE_in (Zai m) m.length (f:=f) (cost:=cost) (rest:=rest) (st:=st0) hm;rcases hst:Zby (Zai m) m.length f l cost rest st0 v with _|⟨b0,k0⟩<;>rw[hst]at e1<;>simp only[bPV,lI]
        all_goals
         refine kw1 kO (kc1 @Zat) (kc1 hin) ?_;refine⟨v+1,?_,?_,?_⟩
         ·omega
         ·try dsimp only
          rw[e1];exact kN (kc2 @bPV.eq_1 @lI.eq_1) []
         ·omega
       ·rw[yE hm]at hin;have e1:=Go.Bd.foldE_out (Zai m) m.length (f:=f) (cost:=cost) (rest:=rest) (st:=st0) hm;have ih:=hIH v hlt hm;have en:(((l.length+1:Nat):Int)-1).toNat=l.length:=by omega
        have hT:(l.map Zax++[Zax v]).take l.length=l.map Zax:=List.take_left' (uD ..);rcases hst:Zby (Zai m) m.length f l cost rest st0 v with _|⟨b0,k0⟩
        all_goals
         rw[hst]at e1 ih;have e3:Zby (Zai m) m.length f l cost rest st0 (v+1)=ZbX (Zai m) m.length f (l++[v]) (cost+Zbz m l v m.length) (rest-ZbD m l v m.length) _:=e1;rw[Zfx,<-e3]at ih;obtain⟨⟨b2,k2⟩,hst2⟩:∃s,Zby (Zai m) m.length f l cost rest st0 (v+1)=some s:=by
          rw[e3];exact Go.Bd.ext_some f (l++[v]) (hp.snoc hlt hm) _ _ _
         rw[hst2]at ih e3;simp only[bPV,lI,uC,uX,uZ,uU,uV,yS,qQ]at ih|-
        ·refine kw1 kO (kc1 @Zat) (kc1 hin) ?_;refine Zaf (λ(w:Nat)=>w<=m.length) (λ w=>[(0, .ptr 1000 0 0 0),(1, .int cost),(2, .int rest),(6, .int v),(7, .int (Zbz m l v w)),(8, .int (ZbD m l v w)),(51, .d (Zae m)),(52, .int m.length),(53, .int v),(65, .d (Zae m)),(66, .int m.length),(67, .int w)]) (λ w=>[(1000, .cells [.d (Zae m), .ref 901 1 0 l.length l.length, .nilS, .int 0]),(1001, .gone),(901, .row 1 (l.map Zax))]) (λ w=>m.length-w) 0 ?_ ?_ ?_
         ·exact uI _
         ·exact eL [] _ _ (by refine⟨?_,?_⟩<;>(repeat' first|exact fmn|refine fmc ⟨(by first|rfl|(simp(disch:=omega) only[go_sem,simprocAttr,inL,Zbz,ZbD,sm];first|done|omega|(congr 1;done))),?_⟩);done)
         ·intro w hw;have b1:0<=Zbz m l v w/\Zbz m l v w<=1000000*w:=Go.Bd.more_bounds hs.small l hlt w hw;have b2:0<=ZbD m l v w/\ZbD m l v w<=1000000*w:=Go.Bd.less_bounds hs.small l hlt w hw;rcases uF w m.length with hlw|hgw
          ·obtain⟨p,hp1,hp2,hp3,hp4,hp5⟩:=hs.get hlt hlw;obtain⟨q,hq1,hq2,hq3,hq4,hq5⟩:=hs.get hlw hlt;have hcw:=Zic l w;by_cases d1:w=v
           ·have e1:=ZgT (m:=m) (l:=l) (v:=v) (k:=w) (λ h=>h.1 d1);have e2:=ZgX (m:=m) (l:=l) (v:=v) (k:=w) (λ h=>h.1 d1);have d1I:(w:Int)=v:=by omega
            refine kw1 kO (kc1 d1I) kc0 ?_;refine⟨w+1,?_,kN (kc2 e1 e2) [],?_⟩
            ·omega
            ·omega
           ·have d1I:¬(w:Int)=v:=by omega
            by_cases d2:w∈l
            ·have e1:=ZgT (m:=m) (l:=l) (v:=v) (k:=w) (λ h=>h.2 d2);have e2:=ZgX (m:=m) (l:=l) (v:=v) (k:=w) (λ h=>h.2 d2);rw[yN d2]at hcw;refine kw1 kO (kc2 d1I @Zat) (kc1 hcw) ?_;refine⟨w+1,?_,kN (kc2 e1 e2) [],?_⟩
             ·omega
             ·omega
            ·have e1:=Zj3 (m:=m) (l:=l) (v:=v) (k:=w) ⟨d1,d2⟩;have e2:=ZkT (m:=m) (l:=l) (v:=v) (k:=w) ⟨d1,d2⟩;rw[yE d2]at hcw;refine kw1 kO (kc7 d1I @Zat hp1 hp3 hq1 hq3 @ZjE) (kc1 hcw) ?_;refine⟨w+1,?_,kN (kc2 e1 e2) [],?_⟩
             ·omega
             ·omega
          ·have:w=m.length:=by omega
           subst this
           repeat' first|refine Zbt rfl ?_|refine ZaX ?_|refine wR ?_|refine rcM [(1001,125),(2000,904)] (ih) rfl ?_|(refine Zbv rfl rfl (λ hc=>?_) (λ hc=>?_)<;>try simp only[hcL]at hc)|(refine Zbx _ rfl rfl (λ hc=>?_) (λ hc=>?_)<;>(try simp only[hcL]at hc)<;>try omega)|simp(disch:=omega) only[go_sem,simprocAttr,roomy,Zat,en,zG]|exact Zhh v|apply And.intro|omega|decide+kernel
           refine⟨v+1,?_,?_,?_⟩
           ·omega
           ·try dsimp only
            rw[hst2];exact Zbm.2 (Ent.trans (Zle 904 1 _ l.length rfl) (Ent.trans (Zlz 1000 1 904 1 0 l.length (l.length+1) l.length rfl rfl (by omega)) (Zbm.1 (eL [(901,904)] _ _ (by refine⟨?_,?_⟩<;>(repeat' first|exact yB _|refine uM.2 ⟨(by first|rfl|(simp(disch:=omega) only[go_sem,simprocAttr,inL,hT,bPV,lI,Ad,kA];first|done|omega|(congr 1;done))),?_⟩);done)))))
           ·omega
        ·refine kw1 kO (kc1 @Zat) (kc1 hin) ?_;refine Zaf (λ(w:Nat)=>w<=m.length) (λ w=>[(0, .ptr 1000 0 0 0),(1, .int cost),(2, .int rest),(6, .int v),(7, .int (Zbz m l v w)),(8, .int (ZbD m l v w)),(51, .d (Zae m)),(52, .int m.length),(53, .int v),(65, .d (Zae m)),(66, .int m.length),(67, .int w)]) (λ w=>[(1000, .cells [.d (Zae m), .ref 901 1 0 l.length l.length, .d (Zcp b0), .int k0]),(1001, .gone),(901, .row 1 (l.map Zax))]) (λ w=>m.length-w) 0 ?_ ?_ ?_
         ·exact uI _
         ·exact eL [] _ _ (by refine⟨?_,?_⟩<;>(repeat' first|exact fmn|refine fmc ⟨(by first|rfl|(simp(disch:=omega) only[go_sem,simprocAttr,inL,Zbz,ZbD,sm];first|done|omega|(congr 1;done))),?_⟩);done)
         ·intro w hw;have b1:0<=Zbz m l v w/\Zbz m l v w<=1000000*w:=Go.Bd.more_bounds hs.small l hlt w hw;have b2:0<=ZbD m l v w/\ZbD m l v w<=1000000*w:=Go.Bd.less_bounds hs.small l hlt w hw;rcases uF w m.length with hlw|hgw
          ·obtain⟨p,hp1,hp2,hp3,hp4,hp5⟩:=hs.get hlt hlw;obtain⟨q,hq1,hq2,hq3,hq4,hq5⟩:=hs.get hlw hlt;have hcw:=Zic l w;by_cases d1:w=v
           ·have e1:=ZgT (m:=m) (l:=l) (v:=v) (k:=w) (λ h=>h.1 d1);have e2:=ZgX (m:=m) (l:=l) (v:=v) (k:=w) (λ h=>h.1 d1);have d1I:(w:Int)=v:=by omega
            refine kw1 kO (kc1 d1I) kc0 ?_;refine⟨w+1,?_,kN (kc2 e1 e2) [],?_⟩
            ·omega
            ·omega
           ·have d1I:¬(w:Int)=v:=by omega
            by_cases d2:w∈l
            ·have e1:=ZgT (m:=m) (l:=l) (v:=v) (k:=w) (λ h=>h.2 d2);have e2:=ZgX (m:=m) (l:=l) (v:=v) (k:=w) (λ h=>h.2 d2);rw[yN d2]at hcw;refine kw1 kO (kc2 d1I @Zat) (kc1 hcw) ?_;refine⟨w+1,?_,kN (kc2 e1 e2) [],?_⟩
             ·omega
             ·omega
            ·have e1:=Zj3 (m:=m) (l:=l) (v:=v) (k:=w) ⟨d1,d2⟩;have e2:=ZkT (m:=m) (l:=l) (v:=v) (k:=w) ⟨d1,d2⟩;rw[yE d2]at hcw;refine kw1 kO (kc7 d1I @Zat hp1 hp3 hq1 hq3 @ZjE) (kc1 hcw) ?_;refine⟨w+1,?_,kN (kc2 e1 e2) [],?_⟩
             ·omega
             ·omega
          ·have:w=m.length:=by omega
           subst this
           repeat' first|refine Zbt rfl ?_|refine ZaX ?_|refine wR ?_|refine rcM [(1001,125),(2000,904)] (ih) rfl ?_|(refine Zbv rfl rfl (λ hc=>?_) (λ hc=>?_)<;>try simp only[hcL]at hc)|(refine Zbx _ rfl rfl (λ hc=>?_) (λ hc=>?_)<;>(try simp only[hcL]at hc)<;>try omega)|simp(disch:=omega) only[go_sem,simprocAttr,roomy,Zat,en,zG]|exact Zhh v|apply And.intro|omega|decide+kernel
           refine⟨v+1,?_,?_,?_⟩
           ·omega
           ·try dsimp only
            rw[hst2];exact Zbm.2 (Ent.trans (Zle 904 1 _ l.length rfl) (Ent.trans (Zlz 1000 1 904 1 0 l.length (l.length+1) l.length rfl rfl (by omega)) (Zbm.1 (eL [(901,904)] _ _ (by refine⟨?_,?_⟩<;>(repeat' first|exact yB _|refine uM.2 ⟨(by first|rfl|(simp(disch:=omega) only[go_sem,simprocAttr,inL,hT,bPV,lI,Ad,kA];first|done|omega|(congr 1;done))),?_⟩);done)))))
           ·omega
      ·have:v=m.length:=by omega
       subst this;rw[hend];simp only[bPV,lI];refine kw1 kO kc0 kc0 ?_;refine⟨_,Zbm.1 (eL [(2000,901)] [] [(1000, .cells [.d (Zae m), .ref 2000 1 0 l.length l.length, .d (Zcp be), .int ke]),(1001, .gone),(2000, .row 1 (l.map Zax))] (by constructor<;>(repeat' first|exact yB _|refine uM.2 ⟨rfl,?_⟩);done)),?_⟩;exact⟨⟨[],rfl,trivial⟩,uM.2 ⟨rfl,uM.2 ⟨rfl,uM.2 ⟨rfl,yB _⟩⟩⟩⟩
  ·exact ZoE m (f+1) l st cost rest hi (by omega) hsh (by rw[Go.Bd.ext_foldE,if_pos hsh])
end Go.Proofs.YtjjbhjnpeenbkaaGreatDoor
namespace Go.Proofs.YtjjbhjnpeenbkaaGreatDoor
open Go Go.PS Go.Proofs
open Go.Bd (sm Zam ZbF low Part Zbn Za9 ZbX Zby ZcS Zdt ZcV Ze2)
set_option maxRecDepth 100000
attribute [local irreducible] Zac wpG Zaa Zag
theorem Zze (m:List (List Int)):ZbX (Zai m) m.length m.length [] 0 (low (Zai m) m.length []) none=some (ZcJ m):=by
 have h:=Go.Bd.ext_best (Zai m) m.length [] (ZjT _) none;rw[Znt]at h;exact h
theorem Zr1 (m:List (List Int)):Zaa Tryz.prog 110 [Zae m] (if okM m then .tup [Zcp (ZcJ m).1, .int (ZcJ m).2, .int 0]else .tup [.sl [], .int 0, .int 1]):=by
 have hv:=Zse m;rcases h:okM m with _|_<;>rw[h]at hv
 ·rw[if_neg (by decide)];refine kE Tryz.func110 ?_;intro hat B X w0;refine kw1 kO kc0 (kc1 hv) ?_;exact⟨_,rfl,Zdd rfl,Zah rfl,Zah rfl,trivial⟩
 ·rw[if_pos rfl];obtain⟨hs,h8⟩:=Znc h;have hlo:=ZyT m h;have hb:0<=low (Zai m) m.length []/\low (Zai m) m.length []<=64000000:=by
   rw[Zru];have:=Zo4 hs h8 m.length (uH _);omega
  have he:=ZzN m hs h8 m.length [] (ZjT _) none 0 (low (Zai m) m.length []) ⟨λ s hs=>(by cases hs), .inr rfl,by omega,by simp,by simp only[uZ];omega,by omega⟩;rw[Zfx,Zze]at he;simp only[bPV,lI,uZ,yS]at he;refine kE Tryz.func110 ?_;intro hat B X w0
  repeat' first|refine Zbt rfl ?_|refine ZaX ?_|refine Zk6 4 rfl (λ _=>false) Zcf ?_|(refine rc (hv) rfl ?_ ?_;(· first|rfl|simp(disch:=omega) only[go_sem,simprocAttr]))|(refine Zbv rfl rfl (λ hc=>?_) (λ hc=>?_)<;>try simp only[hcL]at hc)|(refine Zbx _ rfl rfl (λ hc=>?_) (λ hc=>?_)<;>(try simp only[hcL]at hc)<;>try omega)|simp(disch:=omega) only[go_sem,simprocAttr]|apply And.intro|omega|decide+kernel
  refine Zas _ (Zcy 11 1 901 1 rfl rfl rfl) ?_;refine kw1 kO kc0 (kc2 hlo (kmc [(1000,11),(1001,901),(2000,902)] he)) ?_;exact⟨_,rfl,Zdd rfl,Zah rfl,Zah rfl,trivial⟩
end Go.Proofs.YtjjbhjnpeenbkaaGreatDoor
namespace Go.Proofs.YtjjbhjnpeenbkaaGreatDoor
open Go Go.PS Go.Proofs
open Go.Bd (ix Zdo Zee ZcD ZbQ Zh7)
set_option maxRecDepth 100000
attribute [local irreducible] Zac wpG Zaa Zag
theorem Zm6 {l:List Int}{v:Int}(h:v∈l):ix l v=((l.idxOf v:Nat):Int):=by rw[ix,if_pos h]
theorem Zd8 {l:List (List Int)}{k:Nat}{y:List Int}(h:l[k]? =some y):Zav l k=y:=by rw[Zav,h];rfl
theorem Zik {l:List (List Int)}{k:Nat}(h:l.length<=k):Zav l k=[]:=by rw[Zav,uP h];rfl
def okW (a:Lv)(w:Int):Bool:=Zaq a&&decide (0<=w/\w<=1000)
def Zj8 (a:Lv)(old:List (List Int))(k:Nat):Int:=ZaF (λ i=>(Zdo (Zav old i) (Zav a.2.1 i):Int)) k
def ZeV (a:Lv)(old:List (List Int))(w:Int):Int:=if okW a w then Za7 a+w*Zj8 a old a.2.1.length else -1
theorem ZwR {a:Lv}(h:Zaq a=true)(k:Nat):(Zav a.2.1 k).length<=512:=by
 obtain⟨t1,t2⟩:=Zc7 h;rcases uF k a.2.1.length with hlt|hge
 ·obtain⟨y,hy⟩:=Zad hlt;rw[Zd8 hy];have:=ZcU (uA hy);omega
 ·rw[Zik hge];simp
def Za3 (g:Nat->Int)(n:Nat):List Int:=(List.range n).map g
def Zcx (f g:Nat->Int)(n b:Nat):List Int:=Za3 (λ v=>if v<b then g v else f v) n
theorem ZdZ (g:Nat->Int)(n:Nat):(Za3 g n).length=n:=by simp[Za3]
theorem Zfi {g:Nat->Int}{n v:Nat}(h:v<n):(Za3 g n)[v]? =some (g v):=by simp[Za3,h]
theorem ZgU {f g:Nat->Int}{n:Nat}(h:∀v,v<n->f v=g v):Za3 f n=Za3 g n:=yJ λ v hv=>h v (yA.1 hv)
theorem Zjc (f g:Nat->Int)(n b:Nat):(Zcx f g n b).length=n:=ZdZ _ _
theorem ZrX (f g:Nat->Int)(n:Nat):Zcx f g n 0=Za3 f n:=ZgU λ v _=>if_neg (by omega)
theorem Zrh (f g:Nat->Int)(n:Nat):Zcx f g n n=Za3 g n:=ZgU λ v hv=>if_pos hv
theorem Zp6 {f g:Nat->Int}{n b:Nat}(h:b<n):(Zcx f g n b)[b]? =some (f b):=by rw[Zcx,Zfi h,if_neg (by omega)]
theorem Zpo {f g:Nat->Int}{n b:Nat}(h:b<n):(Zcx f g n b).set b (g b)=Zcx f g n (b+1):=by
 refine qI λ v=>?_
 rw[qD,Zjc];by_cases c:b=v
 ·subst c;rw[if_pos rfl,if_pos h,Zcx,Zfi h,if_pos (by omega)]
 ·rw[if_neg c];by_cases c2:v<n
  ·rw[Zcx,Zcx,Zfi c2,Zfi c2];by_cases c3:v<b
   ·rw[if_pos c3,if_pos (by omega)]
   ·rw[if_neg c3,if_neg (by omega)]
  ·rw[uP (by rw[Zjc];omega),uP (by rw[Zjc];omega)]
theorem Zph (n:Nat):List.replicate n (D.int 0)=(Za3 (λ _=>0) n).map D.int:=by
 rw[Za3,gL];refine qI λ v=>?_
 by_cases c:v<n<;>simp[gK,c]
def ZiG (old y:List Int)(w:Int)(u v:Nat):Int:=if 0<=ix old (at0 y v)/\ix old (at0 y v)<ix old (at0 y u)then w else 0
def ZeF (i:Nat)(t:Nat):Int:=if t=0 then(i:Int)-1 else(i:Int)+1
def ZdW (a:Lv)(old y:List Int)(w:Int)(i:Nat):Nat->Nat->Nat->Int
 |0,u,v=>ZiG old y w u v
 |t+1,u,v=>ZdW a old y w i t u v+Zai (ZaR a i (ZeF i t)) u v
def sqM (g:Nat->Nat->Int)(n:Nat):List (List Int):=(List.range n).map λ u=>Za3 (g u) n
def stM (a:Lv)(old y:List Int)(w:Int)(i:Nat):List (List Int):=sqM (ZdW a old y w i 2) y.length
theorem Zrt {m:List (List Int)}(h:Sq m)(u v:Nat):0<=Zai m u v/\Zai m u v<=1000000:=by
 by_cases hu:u<m.length
 ·by_cases hv:v<m.length
  ·obtain⟨_,_,_,_,h1,h2⟩:=h.get hu hv;exact⟨h1,h2⟩
  ·obtain⟨p,hp⟩:=Zad hu;have:=h.row p (uA hp);rw[Zai,Zd8 hp,at0,uL,uP (by omega)];decide
 ·rw[Zai,Zik (by omega)];simp[at0]
theorem Zlv (a:Lv)(old y:List Int){w:Int}(hw:0<=w/\w<=1000)(i:Nat):∀t u v,0<=ZdW a old y w i t u v/\ZdW a old y w i t u v<=1000+1000000*t
 |0,u,v=>by
  rw[ZdW,ZiG];split<;>omega
 |t+1,u,v=>by
  have ih:=Zlv a old y hw i t u v;have:=Zrt (Zj6 a i (ZeF i t)) u v;rw[ZdW];omega
end Go.Proofs.YtjjbhjnpeenbkaaGreatDoor
namespace Go.Proofs.YtjjbhjnpeenbkaaGreatDoor
open Go Go.PS Go.Proofs
open Go.Bd (ix Zdo Zee ZcD Zam Zgc Zml ZiM Part Zbn)
theorem Zwv {g:Nat->Nat->Int}{n u v:Nat}(hu:u<n)(hv:v<n):Zai (sqM g n) u v=g u v:=by
 rw[Zai,sqM,Zav,uJ,qM hu];simp only[yY,yW];rw[at0,uL,Zfi hv];rfl
theorem Zlt (a:Lv)(old y:List Int)(w:Int)(i:Nat):(stM a old y w i).length=y.length:=by simp[stM,sqM]
def yG (y:List Int)(k:Nat):Int:=(y[k]?).getD 0
theorem Zu3 (old y:List Int)(w:Int)(u v:Nat):ZiG old y w u v=w*ZiM old (yG y) u v:=by
 have e:∀k:Nat,at0 y k=yG y k:=λ k=>by rw[at0,uL];rfl
 rw[ZiG,ZiM,e,e];by_cases h1:yG y u∈old<;>by_cases h2:yG y v∈old
 ·rw[Zm6 h1,Zm6 h2];by_cases h3:old.idxOf (yG y v)<old.idxOf (yG y u)
  ·rw[if_pos ⟨by omega,by omega⟩,if_pos ⟨h1,h2,h3⟩,Int.mul_one]
  ·rw[if_neg (λ h=>h3 (by omega)),if_neg (λ h=>h3 h.2.2),Bk]
 ·rw[if_neg (λ h=>by
   have:=h.1;rw[ix,if_neg h2]at this;omega),if_neg (λ h=>h2 h.2.1),Bk]
 ·rw[if_neg (λ h=>by
   have:=h.2;rw[Zm6 h2,ix,if_neg h1]at this;omega),if_neg (λ h=>h1 h.1),Bk]
 ·rw[if_neg (λ h=>by
   have:=h.1;rw[ix,if_neg h2]at this;omega),if_neg (λ h=>h1 h.1),Bk]
theorem ZxZ (a:Lv)(old y:List Int)(w:Int)(i:Nat)(u v:Nat):ZdW a old y w i 2 u v=w*ZiM old (yG y) u v+ZhH a i u v:=by
 rw[<-Zu3];show ZiG old y w u v+Zai (ZaR a i ((i:Int)-1)) u v+Zai (ZaR a i ((i:Int)+1)) u v=_;rw[ZhH];omega
theorem Zwf (a:Lv)(old y:List Int)(w:Int)(i:Nat){o:List Nat}(ho:Part y.length 0 o):
  Zam (Zai (stM a old y w i)) o=w*Zam (ZiM old (yG y)) o+Zam (ZhH a i) o:=by
 rw[<-Zml,<-Zgc];refine Zm7 ho.nd λ u hu v hv _=>?_
 rw[stM,Zwv (ho.lt u hu) (ho.lt v hv),ZxZ]
theorem ZiW {a:Lv}(hv:Zaq a=true){i:Nat}{y:List Int}(hy:a.2.1[i]? =some y):y.Nodup:=
 (jD.1 (Ze0 hv)).1 y (uA hy)
theorem ZnC {y:List Int}{o:List Nat}(hn:y.Nodup)(ho:Part y.length 0 o):(ZaI y o).Perm y:=
 (Ar (Zrg hn ho) hn).2 λ _=>Zpu ho
theorem ZCe {a:Lv}(hv:Zaq a=true){i:Nat}{y:List Int}{o:List Nat}(hy:a.2.1[i]? =some y)(ho:Part y.length 0 o):Zew a i (ZaI y o)=(ZbP a i (ZaI y o),0):=by
 have hil:=(uB.1 hy).1;rw[Zew,if_neg (by rw[hv];decide),if_neg (by omega),uL,hy,yW,if_neg (by rw[Zq4 (ZnC (ZiW hv hy) ho)];simp)];rfl
end Go.Proofs.YtjjbhjnpeenbkaaGreatDoor
namespace Go.Proofs.YtjjbhjnpeenbkaaGreatDoor
open Go Go.PS Go.Proofs
open Go.Bd (sm ix Zdo Zee ZcD Zam Part Zbn)
set_option maxRecDepth 100000
attribute [local irreducible] Zac wpG Zaa Zag
theorem ZqP (a:Lv)(i f:Int)(u v:Nat):Zai (ZaR a i f) u v<=((a.2.2.1.length*a.2.2.1.length:Nat):Int):=by
 have hz:Zai [] u v=0:=by simp[Zai,Zav,at0]
 rw[ZaR];split
 ·by_cases hu:u<(Zbc a.2.1 a.2.2.1 i f (Zcw a i)).length
  ·by_cases hv:v<(Zbc a.2.1 a.2.2.1 i f (Zcw a i)).length
   ·rw[ZlX hu hv,ZdU];split
    ·omega
    ·have hl:∀k,(Zav (Zbc a.2.1 a.2.2.1 i f (Zcw a i)) k).length<=a.2.2.1.length:=λ k=>by
      by_cases hk:k<Zcw a i
      ·rw[Zbc,Zav,uJ,qM hk];exact Zib ..
      ·rw[Zik (by simp[Zbc];omega)];exact uI _
     have:=gW (Zoe _ _) (zM (hl u) (hl v));omega
   ·have:Zai (ZcN (Zbc a.2.1 a.2.2.1 i f (Zcw a i))) u v=0:=by
     rw[Zai,ZcN,Zav,uJ,qM hu];simp only[yY,yW];rw[at0,uL,uP (by simp;omega)];rfl
    omega
  ·have:Zai (ZcN (Zbc a.2.1 a.2.2.1 i f (Zcw a i))) u v=0:=by
    rw[Zai,Zik (by rw[ZcN];simp;omega)];simp[at0]
   omega
 ·rw[hz];omega
theorem Zzq {a:Lv}{old y:List Int}{w:Int}{i:Nat}(hw:0<=w/\w<=1000)(har:a.2.2.1.length<=700)(hy:y.length<=8):okM (stM a old y w i)=true:=by
 refine Zw6 ⟨by rw[Zlt];omega,λ p hp=>?_,λ p hp x hx=>?_⟩ (by rw[Zlt];exact hy)
 ·rw[Zlt];obtain⟨u,_,rfl⟩:=uN.1 hp;exact ZdZ _ _
 ·obtain⟨u,_,rfl⟩:=uN.1 hp;obtain⟨v,_,rfl⟩:=uN.1 hx;have hb:a.2.2.1.length*a.2.2.1.length<=490000:=gW (zM har har) (by decide);have h1:=ZqP a i ((i:Int)-1) u v;have h2:=ZqP a i ((i:Int)+1) u v;have h3:=(Zlv a old y hw i 2 u v).1;have h4:=(Zlv a old y hw i 0 u v).2;have e:ZdW a old y w i 2 u v=ZdW a old y w i 0 u v+Zai (ZaR a i ((i:Int)-1)) u v+Zai (ZaR a i ((i:Int)+1)) u v:=rfl;omega
theorem ZpY (m:List (List Int)):Part m.length 0 (ZcJ m).1/\(ZcJ m).2=Zam (Zai m) (ZcJ m).1:=by
 obtain⟨h1,_,h3⟩:=Go.Bd.best_of (Zai m) m.length [] (ZjT _) _ (Znt m);exact⟨h1,h3⟩
def ZBs (a:Lv)(old:List (List Int))(w:Int)(i:Nat):Lv:=
 if(ZcJ (stM a (Zav old i) (Zav a.2.1 i) w i)).2<Zam (Zai (stM a (Zav old i) (Zav a.2.1 i) w i)) (List.range (Zav a.2.1 i).length)then ZbP a i (ZaI (Zav a.2.1 i) (ZcJ (stM a (Zav old i) (Zav a.2.1 i) w i)).1)else a
theorem Zyf (l:List Int)(hn:l.length<=1000000):Zag Tryz.prog 214 [.d (Zab l)] [(2000, .dead)] (.ref 2000 1 0 l.length l.length) [(2000, .row 1 (l.map D.int))]:=by
 rcases gT (l=[])with rfl|hl
 ·refine kM Tryz.func214 ?_;intro B X w0;refine Zdb ?_;refine kw1 kO kc0 kc0 ?_;refine Zjd 4 rfl ?_;intro b;cases b
  ·repeat' first|refine Zbt rfl ?_|refine ZaX ?_|refine ZfZ (Nat.beq 5) Zcf ?_|(refine Zbv rfl rfl (λ hc=>?_) (λ hc=>?_)<;>try simp only[hcL]at hc)|(refine Zbx _ rfl rfl (λ hc=>?_) (λ hc=>?_)<;>(try simp only[hcL]at hc)<;>try omega)|simp(disch:=omega) only[go_sem,simprocAttr,roomy]|apply And.intro|omega|decide+kernel
   refine⟨_,Zbm.1 (kN (L:=[(2, .ref 2000 1 0 0 0)]) (M:=[(2000, .row 1 [])]) kc0 [(2000,7)]),?_⟩;exact⟨rfl,uM.2 ⟨rfl,yB _⟩⟩
  ·refine kw1 kO kc0 kc0 ?_;refine⟨_,Ent.trans (ZdV 2 7 1 rfl rfl) (Zbm.1 (eL [(2000,7)] [(2, .ref 2000 1 0 0 0)] [(2000, .row 1 [])] (by constructor<;>(repeat' first|exact yB _|refine uM.2 ⟨rfl,?_⟩)))),?_⟩;exact⟨rfl,uM.2 ⟨rfl,yB _⟩⟩
 ·have he:(l.map D.int).isEmpty=false:=by simpa using hl
  have hpos:0<l.length:=zZ.2 hl;refine kM Tryz.func214 ?_;intro B X w0;refine Zdb ?_
  repeat' first|refine Zbt rfl ?_|refine ZaX ?_|refine ZfZ (Nat.beq 5) Zcf ?_|(refine Zbv rfl rfl (λ hc=>?_) (λ hc=>?_)<;>try simp only[hcL]at hc)|(refine Zbx _ rfl rfl (λ hc=>?_) (λ hc=>?_)<;>(try simp only[hcL]at hc)<;>try omega)|simp(disch:=omega) only[go_sem,simprocAttr,he,roomy,Zat]|exact Zgo l|apply And.intro|omega|decide+kernel
  refine⟨_,Zbm.1 (kN (L:=[(2, .ref 2000 1 0 l.length l.length)]) (M:=[(2000, .row 1 (l.map D.int))]) kc0 [(2000,7)]),?_⟩;exact⟨rfl,uM.2 ⟨rfl,yB _⟩⟩
theorem Zr9 (l m:List Int):Zaa Tryz.prog 31 [Zab l,Zab m] (.bool (decide (l=m))):=by
 refine kE Tryz.func31 ?_;intro hat B X w0;have hl:=ZaU 0 hat rfl;have hm:=ZaU 1 hat rfl;rw[uD]at hl hm;by_cases hlm:l.length=m.length
 ·refine kw1 kO kc0 kc0 ?_;refine Zaf (λ(k:Nat)=>k<=l.length/\l.take k=m.take k) (λ k=>[(0, .d (Zab l)),(1, .d (Zab m)),(5, .int k)]) (λ k=>[]) (λ k=>l.length-k) 0 ?_ ?_ ?_
  ·exact⟨uI _,rfl⟩
  ·exact kN kc0 []
  ·rintro k ⟨hk,hinv⟩;rcases uF k l.length with hlt|hge
   ·obtain⟨p,hp⟩:=Zad hlt;obtain⟨q,hq⟩:=Zad (hlm▸hlt);refine kw kO (kc2 hp hq) kc0 ?_
    repeat' first|exact True.intro|refine Bn.mk ?_ ?_|intro hc
    ·refine Zaj ?_;rw[yE (ZgQ hp hq hc)]
    ·refine⟨k+1,?_,eL [] _ _ (by refine⟨?_,?_⟩<;>(repeat' first|exact fmn|refine fmc ⟨(by first|rfl|(simp(disch:=omega) only[go_sem,simprocAttr,inL];first|done|omega|(congr 1;done))),?_⟩);done),?_⟩
     ·exact⟨by omega,by rw[ZaB hp,ZaB hq,hinv,hc]⟩
     ·omega
   ·refine kw1 kO kc0 kc0 ?_;refine Zaj ?_;rw[uG hge,uG (by omega)]at hinv;simp[hinv]
 ·refine kw1 kO kc0 kc0 ?_;refine Zaj ?_;rw[yE];rintro rfl;exact hlm rfl
theorem sum_nil {a:Lv}(h:Zaq a=true):ZeV a [] 7=Za7 a:=by
 have hz:∀k,Zj8 a [] k=0:=by
  intro k
  induction k with
  |zero=>rfl
  |succ k ih=>
   have s1:Zj8 a [] (k+1)=Zj8 a [] k+(Zdo (Zav [] k) (Zav a.2.1 k):Int):=rfl;have s2:∀(l:List Int) i,ZcD [] l i=[]:=by
    intro l i
    induction i with
    |zero=>rfl
    |succ i ihi=>rw[ZcD];split<;>simp[ihi]
   have s3:Zav [] k=[]:=Zik (uI _);rw[s1,ih,s3,Zdo,s2];rfl
 rw[ZeV,if_pos (by rw[okW,h];decide),hz];omega
end Go.Proofs.YtjjbhjnpeenbkaaGreatDoor
namespace Go.Proofs.YtjjbhjnpeenbkaaGreatDoor
open Go Go.PS Go.Proofs
open Go.Bd (ZcD)
set_option maxRecDepth 100000
attribute [local irreducible] Zac wpG Zaa Zag
end Go.Proofs.YtjjbhjnpeenbkaaGreatDoor
namespace Go.Proofs.YtjjbhjnpeenbkaaGreatDoor
open Go Go.PS Go.Proofs
open Go.Bd (Zdo ZcD Zam Part)
theorem Zmx {a:Lv}(hv:Zaq a=true){i:Nat}{y z:List Int}(hy:a.2.1[i]? =some y)(hz:z.Perm y):Zew a i z=(ZbP a i z,0):=by
 have hil:=(uB.1 hy).1;rw[Zew,if_neg (by rw[hv];decide),if_neg (by omega),uL,hy,yW,if_neg (by rw[Zq4 hz];simp)];rfl
theorem Zyg {a:Lv}(hv:Zaq a=true){i:Nat}{y z:List Int}(hy:a.2.1[i]? =some y)(hz:z.Perm y):Zaq (ZbP a i z)=true:=by
 have h:=Zmx hv hy hz;have:=Zx7 (a:=a) (i:=i) (o:=z) (by rw[h]);rw[h]at this;exact this
structure Kin (a b:Lv):Prop where
 ok:Zaq b=true
 wd:wide b
 len:b.2.1.length=a.2.1.length
 arcs:b.2.2.1=a.2.2.1
 perm:∀k,(Zav b.2.1 k).Perm (Zav a.2.1 k)
theorem Kin.refl {a:Lv}(hv:Zaq a=true)(hw:wide a):Kin a a:=⟨hv,hw,rfl,rfl,λ _=>zO _⟩
theorem Kin.put {a b:Lv}(h:Kin a b){i:Nat}{y z:List Int}(hy:b.2.1[i]? =some y)(hz:z.Perm y):Kin a (ZbP b i z):=by
 have hil:=(uB.1 hy).1;have hyl:y.length<=512:=by have:=ZwR h.ok i;rw[Zd8 hy]at this;exact this
 refine⟨Zyg h.ok hy hz,?_,?_,h.arcs,λ k=>?_⟩
 ·have:=Zua (a:=b) (i:=i) (o:=z) h.wd (by have:=hz.length_eq;omega);rw[Zmx h.ok hy hz]at this;exact this
 ·rw[<-h.len];exact yI
 ·have hl:(ZbP b i z).2.1=b.2.1.set i z:=rfl;by_cases c:k=i
  ·subst c;have hs:Zav (b.2.1.set k z) k=z:=by rw[Zav,qD,if_pos rfl,if_pos hil];rfl
   rw[hl,hs];have:=h.perm k;rw[Zd8 hy]at this;exact hz.trans this
  ·have:Zav (b.2.1.set i z) k=Zav b.2.1 k:=by rw[Zav,Zav,qD,if_neg (λ h=>c h.symm)]
   rw[hl,this];exact h.perm k
theorem Kin.lay {a b:Lv}(h:Kin a b){k:Nat}(hk:k<a.2.1.length):b.2.1[k]? =some (Zav b.2.1 k):=by
 obtain⟨y,hy⟩:=Zad (l:=b.2.1) (k:=k) (by have:=h.len;omega);rw[Zd8 hy];exact hy
def Zb9 (b:Lv)(old:List (List Int))(w:Int):Nat->Lv
 |0=>b
 |k+1=>if 8<(Zav (Zb9 b old w k).2.1 k).length then Zb9 b old w k else ZBs (Zb9 b old w k) old w k
end Go.Proofs.YtjjbhjnpeenbkaaGreatDoor
namespace Go.Proofs.YtjjbhjnpeenbkaaGreatDoor
open Go Go.PS Go.Proofs
open Go.Bd (Zam Part ZiM)
def orM (a:Lv)(i:Nat):List (List Int):=stM a [] (Zav a.2.1 i) 0 i
theorem Zqu (a:Lv)(i:Nat):(orM a i).length=(Zav a.2.1 i).length:=Zlt ..
theorem Ztb (a:Lv)(i:Nat){o:List Nat}(ho:Part (Zav a.2.1 i).length 0 o):Zam (Zai (orM a i)) o=Zam (ZhH a i) o:=by
 rw[orM,Zwf _ _ _ _ _ ho];omega
theorem ZtP {a:Lv}{i:Nat}(har:a.2.2.1.length<=700)(h8:¬8<(Zav a.2.1 i).length):okM (orM a i)=true:=Zzq (by decide) har (by omega)
theorem Zol (a:Lv)(i:Nat):Part (Zav a.2.1 i).length 0 (ZcJ (orM a i)).1:=by
 have:=(ZpY (orM a i)).1;rw[Zqu]at this;exact this
def Zh8 (a:Lv)(i:Nat):Bool:=decide ((ZcJ (orM a i)).2<Zam (Zai (orM a i)) (List.range (Zav a.2.1 i).length))
def ZcG (a:Lv)(i:Nat):List Nat×Bool:=if 8<(Zav a.2.1 i).length then([],false)else((ZcJ (orM a i)).1,Zh8 a i)
def ZeP (a:Lv)(i:Nat):Lv:=ZbP a i (ZaI (Zav a.2.1 i) (ZcJ (orM a i)).1)
theorem ZnH {a:Lv}{i:Nat}(h:(ZcG a i).2=true):¬8<(Zav a.2.1 i).length/\Zh8 a i=true:=by
 rw[ZcG]at h;split at h
 ·cases h
 ·exact⟨by assumption,h⟩
theorem Kin.arr {a b:Lv}(h:Kin a b){i:Nat}(hi:i<a.2.1.length){o:List Nat}(ho:Part (Zav b.2.1 i).length 0 o):Kin a (ZbP b i (ZaI (Zav b.2.1 i) o)):=
 h.put (h.lay hi) (ZnC (ZiW h.ok (h.lay hi)) ho)
theorem ZAY {a b:Lv}(h:Kin a b){i:Nat}(hi:i<a.2.1.length){o:List Nat}(ho:Part (Zav b.2.1 i).length 0 o):
  Za7 (ZbP b i (ZaI (Zav b.2.1 i) o))-Za7 b=Zam (Zai (orM b i)) o-Zam (Zai (orM b i)) (List.range (Zav b.2.1 i).length):=by
 rw[Ztb _ _ ho,Ztb _ _ (Zr2 _)];exact ZuA h.ok (h.arr hi ho).ok (h.lay hi) ho
theorem ZmW {a b:Lv}(h:Kin a b){i:Nat}(hi:i<a.2.1.length):Kin a (ZeP b i):=h.arr hi (Zol b i)
theorem Zoy {a b:Lv}(h:Kin a b){i:Nat}(hi:i<a.2.1.length)(hb:Zh8 b i=true):Za7 (ZeP b i)<Za7 b:=by
 have h1:=ZAY h hi (Zol b i);have h2:=(ZpY (orM b i)).2;rw[Zh8,uE,h2]at hb;rw[ZeP];omega
theorem Zvt (a:Lv):0<=Za7 a:=by
 have:=Zju (f:=λ i=>Zb2 a i) (c:=360000000000) a.2.1.length λ i _=>Zs2 a i
 exact this.1
def ZbQ :Nat->Lv->Nat->Lv
 |0,b,_=>b
 |f+1,b,i=>if i<b.2.1.length then(if(ZcG b i).2 then ZbQ f (ZeP b i) 0 else ZbQ f b (i+1))else b
def Zeb (b:Lv)(i:Nat):Nat:=(Za7 b).toNat*(b.2.1.length+1)+(b.2.1.length-i)
def ZcF (a:Lv):Lv:=ZbQ (Zeb a 0) a 0
theorem ZoD {b:Lv}{i:Nat}(h:i<b.2.1.length):Zeb b (i+1)<Zeb b i:=by
 simp only[Zeb];omega
theorem Zrb {a b:Lv}(h:Kin a b){i:Nat}(hi:i<a.2.1.length)(hb:Zh8 b i=true):Zeb (ZeP b i) 0<Zeb b i:=by
 have h1:=Zoy h hi hb;have h2:=Zvt (ZeP b i);have h3:(ZeP b i).2.1.length=b.2.1.length:=by rw[(ZmW h hi).len,h.len]
 have h4:=h.len;rw[Zeb,Zeb,h3];have h5:((Za7 (ZeP b i)).toNat+1)*(b.2.1.length+1)<=(Za7 b).toNat*(b.2.1.length+1):=yL _ (by omega);rw[qJ]at h5;omega
theorem Zo6 {f:Nat}{b:Lv}{i:Nat}(h:¬i<b.2.1.length):ZbQ f b i=b:=by
 cases f with
 |zero=>rfl
 |succ f=>rw[ZbQ,if_neg h]
theorem ZkA {a:Lv}:∀(f:Nat) (b:Lv) (i:Nat),Kin a b->Zeb b i<=f->i<=a.2.1.length->(∀j,j<i->(ZcG b j).2=false)->
  Kin a (ZbQ f b i)/\Za7 (ZbQ f b i)<=Za7 b/\∀j,j<a.2.1.length->(ZcG (ZbQ f b i) j).2=false
 |0,b,i,h,hm,hi,hj=>by
  have h4:=h.len;simp only[Zeb]at hm;rw[ZbQ];exact⟨h,qZ _,λ j hlt=>hj j (by omega)⟩
 |f+1,b,i,h,hm,hi,hj=>by
  have h4:=h.len;by_cases hlt:i<b.2.1.length
  ·rw[ZbQ,if_pos hlt];rcases hb:(ZcG b i).2 with _|_
   ·rw[if_neg (by decide)];refine ZkA f b (i+1) h (by have:=ZoD hlt;omega) (by omega) λ j hlj=>?_
    rcases uF j i with c|c
    ·exact hj j c
    ·obtain rfl:j=i:=by omega
     exact hb
   ·rw[if_pos rfl];have hb2:=(ZnH hb).2;have h5:=Zrb h (by omega) hb2;have h6:=Zoy h (by omega) hb2;obtain⟨g1,g2,g3⟩:=ZkA f (ZeP b i) 0 (ZmW h (by omega)) (by omega) (uI _) (λ j hlj=>absurd hlj (zS j));exact⟨g1,by omega,g3⟩
  ·rw[Zo6 hlt];exact⟨h,qZ _,λ j hlt2=>hj j (by omega)⟩
theorem ZvQ {a:Lv}(hv:Zaq a=true)(hw:wide a):Kin a (ZcF a)/\Za7 (ZcF a)<=Za7 a/\∀j,j<a.2.1.length->(ZcG (ZcF a) j).2=false:=
 ZkA _ a 0 (Kin.refl hv hw) (uH _) (uI _) (λ j hlj=>absurd hlj (zS j))
end Go.Proofs.YtjjbhjnpeenbkaaGreatDoor
namespace Go.Proofs.YtjjbhjnpeenbkaaGreatDoor
open Go Go.PS Go.Proofs
set_option maxRecDepth 100000
attribute [local irreducible] Zac wpG Zaa Zag
abbrev elD (v:Nat->Int)(p:Nat->List D)(k:Nat):D:= .ag [.int (v k), .sl (p k)]
theorem ZuG (v:Nat->Int)(p:Nat->List D)(g:Nat)(a b n N:Nat)(L:Nat->List Nat)(hlen:∀i,(L i).length=N)(hN:N<=1000000)(ha:a+n<=N)(hb:b+n<=N)
  (hstep:∀i,i<n->∃u w,(L i)[a+i]? =some u/\(L i)[b+i]? =some w/\((L i).set (a+i) w).set (b+i) u=L (i+1)):
  Zag Tryz.prog 292 [.ref 1000 2 0 N N, .int a, .int b, .int n, .d (.fn g [])] [(1000, .row 2 ((L 0).map (elD v p)))] (.tup []) [(1000, .row 2 ((L n).map (elD v p)))]:=by
 refine kM Tryz.func292 ?_;intro B X w0;refine Zdb ?_;refine kw1 kO kc0 kc0 ?_;refine Zaf (λ(i:Nat)=>i<=n) (λ i=>[(0, .ref 1000 2 0 N N),(1, .int a),(2, .int b),(3, .int n),(10, .int i)]) (λ i=>[(1000, .row 2 ((L i).map (elD v p)))]) (λ i=>n-i) 0 ?_ ?_ ?_
 ·exact uI _
 ·exact kN kc0 []
 ·intro i hi;rcases uF i n with hlt|hge
  ·obtain⟨u,w,hu,hw,hs⟩:=hstep i hlt;have hl:=hlen i;have e1:((a:Int)+i).toNat=a+i:=by omega
   have e2:((b:Int)+i).toNat=b+i:=by omega
   have hs2:(((L i).map (elD v p)).set (a+i) (elD v p w)).set (b+i) (elD v p u)=(L (i+1)).map (elD v p):=by rw[<-hs,yP,yP]
   have hz:((L i).set (a+i) w)[b+i]? =some w:=by
    rw[qD];by_cases c:a+i=b+i
    ·rw[if_pos c,if_pos (by omega)]
    ·rw[if_neg c,hw]
   have hz2:(((L i).map (elD v p)).set (a+i) (elD v p w))[b+i]? =some (elD v p w):=by rw[<-yP,uJ,hz];rfl
   refine kw1 kO (kc8 e1 e2 hu hw hl @yI.{0} hz2 hs2) kc0 ?_;refine⟨i+1,?_,kN (kc1 hs2) [],?_⟩
   ·omega
   ·omega
  ·have:i=n:=by omega
   subst this;refine kw1 kO kc0 kc0 ?_;refine⟨_,Zbm.1 (kN (L:=[]) (M:=[(1000, .row 2 ((L i).map (elD v p)))]) kc0 []),?_⟩;exact⟨⟨[],rfl,trivial⟩,fmc ⟨rfl,fmn⟩⟩
theorem ZgS {α:Type}(A:List α)(u w:α)(C:List α):(A++u::C).set A.length w=A++w::C:=by
 rw[Bv,if_neg (Nat.lt_irrefl _),jE];rfl
theorem Zhm {α:Type}(A:List α)(u:α)(C:List α):(A++u::C)[A.length]? =some u:=by
 rw[yU (uH _),jE];rfl
theorem Zgx {α:Type}{l:List α}{i:Nat}{u:α}(h:l[i]? =some u):l.drop i=u::l.drop (i+1):=by
 obtain⟨hl,rfl⟩:=uB.1 h;exact gG hl
def swN (X U Y V Z:List Nat)(i:Nat):List Nat:=X++V.take i++U.drop i++Y++U.take i++V.drop i++Z
theorem Zya {X U Y V Z:List Nat}(h:U.length=V.length){i:Nat}(hi:i<U.length):
  ∃u w,(swN X U Y V Z i)[X.length+i]? =some u/\(swN X U Y V Z i)[X.length+U.length+Y.length+i]? =some w/\((swN X U Y V Z i).set (X.length+i) w).set (X.length+U.length+Y.length+i) u=swN X U Y V Z (i+1):=by
 obtain⟨u,hu⟩:=Zad hi;obtain⟨w,hw⟩:=Zad (l:=V) (k:=i) (by omega);have e1:swN X U Y V Z i=(X++V.take i)++u::((U.drop (i+1)++Y++U.take i)++w::(V.drop (i+1)++Z)):=by
  rw[swN,Zgx hu,Zgx hw];simp
 have e2:swN X U Y V Z i=((X++V.take i)++u::(U.drop (i+1)++Y++U.take i))++w::(V.drop (i+1)++Z):=by rw[e1];simp
 have l1:(X++V.take i).length=X.length+i:=by rw[uC,uS];omega
 have l2:((X++V.take i)++u::(U.drop (i+1)++Y++U.take i)).length=X.length+U.length+Y.length+i:=by
  simp only[uC,uX,uS,qR];omega
 have l3:((X++V.take i)++w::(U.drop (i+1)++Y++U.take i)).length=X.length+U.length+Y.length+i:=by
  simp only[uC,uX,uS,qR];omega
 refine⟨u,w,?_,?_,?_⟩
 ·rw[e1,<-l1];exact Zhm _ _ _
 ·rw[e2,<-l2];exact Zhm _ _ _
 ·rw[e1,<-l1,ZgS];have e3:(X++V.take i)++w::((U.drop (i+1)++Y++U.take i)++w::(V.drop (i+1)++Z))=((X++V.take i)++w::(U.drop (i+1)++Y++U.take i))++w::(V.drop (i+1)++Z):=by simp
  rw[e3,<-l3,ZgS,swN,ZaB hw,ZaB hu];simp
theorem ZlT (v:Nat->Int)(p:Nat->List D)(g:Nat)(X U Y V Z:List Nat)(h:U.length=V.length)(N:Nat)(hN:X.length+U.length+Y.length+V.length+Z.length=N)(hN1:N<=1000000)(a b n:Int)
  (ha:a=X.length)(hb:b=(X.length+U.length+Y.length:Nat))(hn:n=U.length):
  Zag Tryz.prog 292 [.ref 1000 2 0 N N, .int a, .int b, .int n, .d (.fn g [])] [(1000, .row 2 ((X++U++Y++V++Z).map (elD v p)))] (.tup []) [(1000, .row 2 ((X++V++Y++U++Z).map (elD v p)))]:=by
 have hm:=ZuG v p g X.length (X.length+U.length+Y.length) U.length N (swN X U Y V Z) (λ i=>by
  rw[swN];simp only[uC,uS,qR];omega) hN1 (by omega) (by omega) (λ i hi=>Zya h hi)
 have e0:swN X U Y V Z 0=X++U++Y++V++Z:=by rw[swN];simp
 have e1:swN X U Y V Z U.length=X++V++Y++U++Z:=by
  rw[swN,uG (l:=V) (by omega),gZ (l:=U) (uH _),uG (l:=U) (uH _),gZ (l:=V) (by omega)];simp
 rw[e0,e1]at hm;rw[ha,hb,hn];exact hm
theorem Zwc (v:Nat->Int)(p:Nat->List D)(g:Nat)(P U V Q:List Nat)(hU:0<U.length)(hV:0<V.length)(N:Nat)(hN:P.length+U.length+V.length+Q.length=N)(hN1:N<=1000000)(a m b:Int)
  (ha:a=P.length)(hm:m=(P.length+U.length:Nat))(hb:b=(P.length+U.length+V.length:Nat)):
  Zag Tryz.prog 290 [.ref 1000 2 0 N N, .int a, .int m, .int b, .d (.fn g [])] [(1000, .row 2 ((P++U++V++Q).map (elD v p)))] (.tup []) [(1000, .row 2 ((P++V++U++Q).map (elD v p)))]:=by
 subst ha hm hb;obtain⟨M,hM⟩:∃M,M=P.length+U.length:=⟨_,rfl⟩;obtain⟨R,hR⟩:∃R,R=P++V++U++Q:=⟨_,rfl⟩;rw[<-hR,<-hM];have d1:((M+V.length:Nat):Int)-(M:Int)=V.length:=by omega
 have d2:(M:Int)-(P.length:Int)=U.length:=by omega
 refine kM Tryz.func290 ?_;intro B X w0;refine Zdb ?_;refine kw1 kO (kc2 d1 d2) kc0 ?_;refine Zaf (λ(q:List Nat×List Nat×List Nat×List Nat)=>match q with|(P,U,V,Q)=>0<U.length/\0<V.length/\P.length+U.length=M/\P.length+U.length+V.length+Q.length=N/\P++V++U++Q=R) (λ(P,U,V,Q)=>[(0, .ref 1000 2 0 N N),(2, .int M),(4, .d (.fn g [])),(10, .int U.length),(11, .int V.length)]) (λ(P,U,V,Q)=>[(1000, .row 2 ((P++U++V++Q).map (elD v p)))]) (λ(P,U,V,Q)=>U.length+V.length) (P,U,V,Q) ?_ ?_ ?_
 ·exact⟨hU,hV,hM.symm,by omega,hR.symm⟩
 ·exact kN kc0 []
 ·rintro⟨P,U,V,Q⟩ ⟨hU,hV,hM,hN,hR⟩;dsimp only at hU hV hM hN hR|-;rcases Am U.length V.length with hlt|heq|hgt
  ·obtain⟨V1,V2,rfl,hl⟩:∃V1 V2,V=V1++V2/\V2.length=U.length:=⟨V.take (V.length-U.length),V.drop (V.length-U.length),(yX _ _).symm,by rw[qR];omega⟩;rw[uC]at hlt hN;have h1:=ZlT v p g P U V1 V2 Q hl.symm N (by omega) hN1 ((M:Int)-(U.length:Int)) ((M:Int)+((V1++V2).length:Int)-(U.length:Int)) U.length (by omega) (by rw[uC];omega) rfl;have e0:P++U++(V1++V2)++Q=P++U++V1++V2++Q:=by simp
   have e1:P++V2++V1++U++Q=P++V2++V1++(U++Q):=by simp
   have e2:((V1++V2).length:Int)-(U.length:Int)=V1.length:=by rw[uC];omega
   have b1:(V1++V2).length<=1000000:=by rw[uC];omega
   have b2:U.length<(V1++V2).length:=by rw[uC];omega
   rw[<-e0]at h1;have b3:(V1++V2).length=V1.length+V2.length:=uC;generalize hVV:V1++V2=VV at*;refine kw1 kO kc0 (kc1 (kmc [] h1)) ?_;refine⟨(P,V2,V1,U++Q),?_,kN (kc3 e1 e2 hl) [],?_⟩
   ·dsimp only;refine⟨by omega,by omega,by omega,?_,?_⟩
    ·rw[uC];omega
    ·rw[<-hR,<-hVV];simp
   ·dsimp only;omega
  ·have h1:=ZlT v p g P U [] V Q heq N (by simp only[uZ];omega) hN1 ((M:Int)-(V.length:Int)) M V.length (by omega) (by simp only[uZ];omega) (by omega);rw[yQ,yQ]at h1;refine kw1 kO (kc1 heq) (kc1 (kmc [] h1)) ?_;refine⟨_,Zbm.1 (kN (L:=[]) (M:=[(1000, .row 2 ((P++V++U++Q).map (elD v p)))]) kc0 []),?_⟩;rw[hR];exact⟨⟨[],rfl,trivial⟩,fmc ⟨rfl,fmn⟩⟩
  ·obtain⟨U1,U2,rfl,hl⟩:∃U1 U2,U=U1++U2/\U1.length=V.length:=⟨U.take V.length,U.drop V.length,(yX _ _).symm,by rw[uS];omega⟩;rw[uC]at hgt hN;have h1:=ZlT v p g P U1 U2 V Q hl N (by omega) hN1 ((M:Int)-((U1++U2).length:Int)) M V.length (by rw[uC]at hM|-;omega) (by rw[uC]at hM;omega) (by omega);have e0:P++(U1++U2)++V++Q=P++U1++U2++V++Q:=by simp
   have e1:P++V++U2++U1++Q=(P++V)++U2++U1++Q:=by simp
   have e2:((U1++U2).length:Int)-(V.length:Int)=U2.length:=by rw[uC];omega
   have b1:(U1++U2).length<=1000000:=by rw[uC];omega
   have b2:V.length<(U1++U2).length:=by rw[uC];omega
   rw[<-e0]at h1;have b3:(U1++U2).length=U1.length+U2.length:=uC;generalize hUU:U1++U2=UU at*;refine kw1 kO kc0 (kc1 (kmc [] h1)) ?_;refine⟨(P++V,U2,U1,Q),?_,kN (kc3 e1 e2 hl) [],?_⟩
   ·dsimp only;refine⟨by omega,by omega,?_,?_,?_⟩
    ·rw[uC];omega
    ·rw[uC];omega
    ·rw[<-hR,<-hUU];simp
   ·dsimp only;omega
open Go.Stb
def Zds (c:Nat->Nat->Int)(R:Nat->Nat->Prop)(s x:Nat):Prop:=c x s<0↔R x s
theorem ZtB {c:Nat->Nat->Int}{R:Nat->Nat->Prop}{M:List Nat}(h:M.Pairwise (Zds c R)){k x s:Nat}(hx:M[k]? =some x)(hs:s∈M.take k):Zds c R s x:=by
 rw[<-yX k M]at h;exact(qB.1 h).2.2 s hs x (by rw[Zgx hx];simp)
theorem Zx6 {M:List Nat}(h:M.Nodup){k x s:Nat}(hx:M[k]? =some x)(hs:s∈M.take k):s≠x:=by
 rw[<-yX k M,gP]at h;exact h.2.2 s hs x (by rw[Zgx hx];simp)
theorem ZCw (v:Nat->Int)(p:Nat->List D)(g:Nat)(c:Nat->Nat->Int)(R:Nat->Nat->Prop)(hR:Ord R)(hcmp:∀j k,Zaa Tryz.prog g [elD v p j,elD v p k] (.int (c j k)))
  (P M Q T:List Nat)(hb:M.Pairwise (Zds c R))(hnd:M.Nodup)(hT:T.Perm M)(hTs:T.Pairwise R)(N:Nat)(hN:P.length+M.length+Q.length=N)(hN1:N<=1000000)(a e:Int)(ha:a=P.length)(he:e=(P.length+M.length:Nat)):
  Zag Tryz.prog 280 [.ref 1000 2 0 N N, .int a, .int e, .d (.fn g [])] [(1000, .row 2 ((P++M++Q).map (elD v p)))] (.tup []) [(1000, .row 2 ((P++T++Q).map (elD v p)))]:=by
 subst ha he;obtain⟨A,hA⟩:∃A,A=P.length:=⟨_,rfl⟩;rw[<-hA];refine kM Tryz.func280 ?_;intro B X w0;refine Zdb ?_;refine kw1 kO kc0 kc0 ?_;refine Zaf (λ(q:Nat×List Nat)=>match q with|(k,S)=>1<=k/\k<=M.length+1/\S.Pairwise R/\S.Perm (M.take k)) (λ(k,S)=>[(0, .ref 1000 2 0 N N),(1, .int A),(2, .int ((A+M.length:Nat):Int)),(3, .d (.fn g [])),(8, .int ((A+k:Nat):Int))]) (λ(k,S)=>[(1000, .row 2 ((P++S++M.drop k++Q).map (elD v p)))]) (λ(k,S)=>M.length+1-k) (1,M.take 1) ?_ ?_ ?_
 ·refine⟨uH _,by omega,?_,zO _⟩;rcases M with _|⟨x,M⟩
  ·exact List.Pairwise.nil
  ·exact kH _ _
 ·have e0:P++M.take 1++M.drop 1++Q=P++M++Q:=by rw[yO P,yX]
  exact kN (kc3 e0 @qN @gQ) []
 ·rintro⟨k,S⟩ ⟨hk1,hk2,hSs,hSp⟩;dsimp only at hk1 hk2 hSs hSp|-;have hSl:=hSp.length_eq;rw[uS]at hSl;rcases uF k M.length with hlt|hge
  ·obtain⟨x,hx⟩:=Zad hlt;have hdr:=Zgx hx;have hSx:∀s,s∈S->Zds c R s x/\s≠x:=λ s hs=>⟨ZtB hb hx (hSp.mem_iff.1 hs),Zx6 hnd hx (hSp.mem_iff.1 hs)⟩
   generalize hQ2:M.drop (k+1)++Q=Q2 at*;have hQl:Q2.length+k+1=M.length+Q.length:=by rw[<-hQ2,uC,qR];omega
   refine kw1 kO kc0 kc0 ?_;refine Zaf (λ(q:List Nat×List Nat)=>match q with|(S1,S2)=>S1++S2=S/\(∀s,s∈S2->R x s)) (λ(S1,S2)=>[(0, .ref 1000 2 0 N N),(1, .int A),(2, .int ((A+M.length:Nat):Int)),(3, .d (.fn g [])),(8, .int ((A+k:Nat):Int)),(9, .int ((A+S1.length:Nat):Int))]) (λ(S1,S2)=>[(1000, .row 2 ((P++S1++x::(S2++Q2)).map (elD v p)))]) (λ(S1,S2)=>S1.length) (S,[]) ?_ ?_ ?_
   ·exact⟨yQ _,λ s hs=>by cases hs⟩
   ·have e0:P++S++M.drop k++Q=P++S++x::Q2:=by rw[hdr,<-hQ2];simp
    have e1:S.length=k:=by omega
    exact kN (kc3 e0 e1 @gJ.{0}) []
   ·rintro⟨S1,S2⟩ ⟨hSS,hS2⟩;dsimp only at hSS hS2|-;have hl0:S1.length+S2.length=k:=by
     have:=qW List.length hSS;rw[uC]at this;omega
    have hdone:S1=[]\/(∃S3 s,S1=S3++[s]):=by
     rcases Bl S1 with h|⟨l,z,h⟩
     ·exact .inl h
     ·exact .inr ⟨l,z,by rw[h,Bm]⟩
    have hfin:(∀s,s∈S1->R s x)->(S1++x::S2).Pairwise R/\(S1++x::S2).Perm (M.take (k+1)):=λ h=>by
     refine⟨Zuh hR (by rw[hSS];exact hSs) h hS2,?_⟩;rw[ZaB hx];refine zK.trans ?_;rw[hSS];exact(List.perm_append_comm (l₁:=[x]) (l₂:=S)).trans (hSp.append_right [x])
    have hrow:P++S1++x::(S2++Q2)=P++(S1++x::S2)++M.drop (k+1)++Q:=by rw[<-hQ2];simp
    have hkk:((A+k:Nat):Int)+1=((A+(k+1):Nat):Int):=by omega
    rcases hdone with rfl|⟨S3,s,rfl⟩
    ·obtain⟨f1,f2⟩:=hfin (λ s hs=>by cases hs);have z0:A+([]:List Nat).length=A:=rfl;rw[z0];refine kw1 kO kc0 kc0 ?_;have hrow0:P++x::(S2++Q2)=P++x::S2++M.drop (k+1)++Q:=by rw[<-hQ2];simp
     refine⟨(k+1,x::S2),?_,kN (kc2 @hrow0 hkk) [],?_⟩
     ·exact⟨by omega,by omega,f1,f2⟩
     ·dsimp only;omega
    ·obtain⟨hbk,hne⟩:=hSx s (by rw[<-hSS];simp);have h1:=hcmp x s;rw[uC,yT]at hl0;obtain⟨J,hJ⟩:∃J,J=A+S3.length:=⟨_,rfl⟩;have z0:A+(S3++[s]).length=J+1:=by rw[uC,yT];omega
     have g1:(P++(S3++[s])++x::(S2++Q2))[J+1]? =some x:=by
      rw[<-z0,hA,<-uC];exact Zhm _ _ _
     have rw1:P++(S3++[s])++x::(S2++Q2)=(P++S3)++s::x::(S2++Q2):=by simp
     have hPJ:(P++S3).length=J:=by rw[uC];omega
     have g2:(P++(S3++[s])++x::(S2++Q2))[J]? =some s:=by rw[rw1,<-hPJ];exact Zhm _ _ _
     have hln:(P++(S3++[s])++x::(S2++Q2)).length=N:=by
      simp only[uC,uX,uZ];omega
     have hst:((P++(S3++[s])++x::(S2++Q2)).set (J+1) s).set J x=P++S3++x::(s::S2++Q2):=by
      have r1:(P++(S3++[s])++x::(S2++Q2)).set (J+1) s=(P++S3)++s::s::(S2++Q2):=by
       rw[<-z0,hA,<-uC,ZgS];simp
      rw[r1,<-hPJ,ZgS];simp
     have g3:((P++(S3++[s])++x::(S2++Q2)).set (J+1) s)[J]? =some s:=by
      rw[qD,if_neg (by omega),g2]
     rw[z0];rw[hrow]at*;generalize hLL:P++(S3++[s]++x::S2)++M.drop (k+1)++Q=LL at*;have g4:((LL.map (elD v p)).set (J+1) (elD v p s))[J]? =some (elD v p s):=by rw[<-yP,uJ,g3];rfl
     have hs2:((LL.map (elD v p)).set (J+1) (elD v p s)).set J (elD v p x)=(P++S3++x::(s::S2++Q2)).map (elD v p):=by rw[<-hst,yP,yP]
     have n1:(((J+1:Nat):Int)-1).toNat=J:=by omega
     have n2:(((J+1:Nat):Int)).toNat=J+1:=by omega
     have n3:((J+1:Nat):Int)-1=(J:Int):=by omega
     by_cases hlt2:c x s<0
     ·refine kw1 kO (kc8 n1 n2 n3 g1 g2 hln hlt2 (kc3 @yI.{0} g4 hs2)) (kc1 h1) ?_;refine⟨(S3,s::S2),?_,kN (kc2 hs2 hJ) [],?_⟩
      ·dsimp only;exact⟨by rw[<-hSS];simp,λ z hz=>by
        rcases yK.1 hz with rfl|hz
        ·exact hbk.1 hlt2
        ·exact hS2 z hz⟩
      ·dsimp only;rw[uC,yT];omega
     ·have hsx:R s x:=by
       rcases hR.total s x hne with h|h
       ·exact h
       ·exact absurd (hbk.2 h) hlt2
      have hS1s:(S3++[s]).Pairwise R:=by
       rw[<-hSS]at hSs;exact(qB.1 hSs).1
      obtain⟨f1,f2⟩:=hfin (λ z hz=>by
       rcases yH.1 hz with hz|hz
       ·exact hR.trans z s x ((qB.1 hS1s).2.2 z hz s (by simp)) hsx
       ·rw[uR.1 hz];exact hsx)
      refine kw1 kO (kc7 n1 n2 n3 g1 g2 hln hlt2) (kc1 h1) ?_;refine⟨(k+1,S3++[s]++x::S2),?_,kN (kc2 hLL hkk) [],?_⟩
      ·exact⟨by omega,by omega,f1,f2⟩
      ·dsimp only;omega
  ·have hS:S=T:=by
    rw[uG hge]at hSp;exact ZhA hR (hSp.trans hT.symm) hSs hTs
   subst hS;refine kw1 kO kc0 kc0 ?_;have e0:P++S++M.drop k++Q=P++S++Q:=by rw[gZ hge,yQ]
   refine⟨_,Zbm.1 (kN (L:=[]) (M:=[(1000, .row 2 ((P++S++Q).map (elD v p)))]) (kc1 e0) []),?_⟩;exact⟨⟨[],rfl,trivial⟩,fmc ⟨rfl,fmn⟩⟩
end Go.Proofs.YtjjbhjnpeenbkaaGreatDoor
